/- The checker's small functions: within, isWord, argsOf, CheckMachine, field, operation, formOf. -/
import Derived.Test.YtedabpldigcffaaDraw
import Derived.Deep.DeepCutAuto
import Derived.Deep.CutBlock
namespace Go.Proofs.Ytedabpldigcffaa
open Go.RowKit

/-- lo ≤ n ≤ hi. -/
def inR (n lo hi : Int) : Bool := decide (lo ≤ n) && decide (n ≤ hi)
theorem inR_iff {n lo hi : Int} : inR n lo hi = true ↔ lo ≤ n ∧ n ≤ hi := by simp [inR]

/-- A machine. -/
structure Mc where
  main : Int
  banks : Int
  bank : Int
  lanes : Int
  queues : Int
def Mc.cells (m : Mc) : List Value := [.int .i64 m.main, .int .i64 m.banks, .int .i64 m.bank, .int .i64 m.lanes, .int .i64 m.queues]
def Mc.okB (m : Mc) : Bool := inR m.main 1 524288 && inR m.banks 2 8 && inR m.bank 256 4096 && inR m.lanes 2 8 && inR m.queues 1 4

theorem within_any (n lo hi : Int) (w : World) : Calls Try.prog 39 #[.int .i64 n, .int .i64 lo, .int .i64 hi] w fun e w' => e = .returned (.bool (inR n lo hi)) ∧ w = w' := by
  by_cases h1 : lo ≤ n
  · go_enter Try.func39, Try.ntmps39
    go_wp2
    go_ret
    exact ⟨ret_bool (by simp [inR, h1]), rfl⟩
  · have h2 : decide (lo ≤ n) = false := by simpa using h1
    go_enter Try.func39, Try.ntmps39
    go_wp2
    go_ret
    exact ⟨ret_bool (by simp [inR]; omega), rfl⟩
theorem within2_any (n lo hi : Int) (w : World) : Calls Try.prog 53 #[.int .i64 n, .int .i64 lo, .int .i64 hi] w fun e w' => e = .returned (.bool (inR n lo hi)) ∧ w = w' := by
  by_cases h1 : lo ≤ n
  · go_enter Try.func53, Try.ntmps53
    go_wp2
    go_ret
    exact ⟨ret_bool (by simp [inR, h1]), rfl⟩
  · have h2 : decide (lo ≤ n) = false := by simpa using h1
    go_enter Try.func53, Try.ntmps53
    go_wp2
    go_ret
    exact ⟨ret_bool (by simp [inR]; omega), rfl⟩
theorem isWord_any (n : Int) (w : World) : Calls Try.prog 63 #[.int .i64 n] w fun e w' => e = .returned (.bool (inR n (-2147483648) 2147483647)) ∧ w = w' := by
  go_enter Try.func63, Try.ntmps63
  go_wp2_with (go_at_call 39; refine (within_any _ _ _ _).mono ?_; rintro e w' ⟨rfl, rfl⟩)
  go_ret
  exact ⟨rfl, rfl⟩

/-- How many arguments an operation has. -/
def argsN (k : Int) : Int := if k = 15 then 3 else if inR k 4 10 then 2 else if inR k 11 14 then 1 else 0
theorem argsOf_any (k : Int) (w : World) : Calls Try.prog 78 #[.int .i64 k] w fun e w' => e = .returned (.int .i64 (argsN k)) ∧ w = w' := by
  by_cases h1 : k = 15
  · have h2 : (k == 15) = true := by simpa using h1
    have H : Hd (argsN k = 3) := hd (by simp [argsN, h1])
    clear h1
    go_enter Try.func78, Try.ntmps78
    go_wp2_with fail
    go_ret
    exact ⟨ret_int H.out.symm, rfl⟩
  · have h2 : (k == 15) = false := by simpa using h1
    have H : Hd (argsN k = if inR k 4 10 then 2 else if inR k 11 14 then 1 else 0) := hd (by simp [argsN, h1])
    clear h1
    cases h3 : inR k 4 10 <;> cases h4 : inR k 11 14
    all_goals
      have H2 := H.out
      rw [h3, h4] at H2
      replace H2 := hd H2
      go_enter Try.func78, Try.ntmps78
      go_wp2_with (go_at_call 39; refine (within_any _ _ _ _).mono ?_; rintro e w' ⟨rfl, rfl⟩)
      go_ret
      exact ⟨ret_int H2.out.symm, rfl⟩

/-- No error, or e. -/
def okE (b : Bool) (e : Int) : Int := match b with | true => 0 | false => e
theorem five (a b c d e : Bool) : a = false ∨ (a = true ∧ b = false) ∨ (a = true ∧ b = true ∧ c = false) ∨ (a = true ∧ b = true ∧ c = true ∧ d = false) ∨ (a = true ∧ b = true ∧ c = true ∧ d = true ∧ e = false) ∨ (a = true ∧ b = true ∧ c = true ∧ d = true ∧ e = true) := by
  cases a <;> cases b <;> cases c <;> cases d <;> cases e <;> simp
theorem checkMachine_any (m : Mc) (w : World) : Calls Try.prog 20 #[.agg m.cells.toArray] w fun e w' => e = .returned (.int .i64 (okE m.okB 9)) ∧ Ext [] w w' := by
  obtain ⟨m0, m1, m2, m3, m4⟩ := m
  simp only [Mc.cells, Mc.okB]
  rcases five (inR m0 1 524288) (inR m1 2 8) (inR m2 256 4096) (inR m3 2 8) (inR m4 1 4) with h0 | ⟨h0, h1⟩ | ⟨h0, h1, h2⟩ | ⟨h0, h1, h2, h3⟩ | ⟨h0, h1, h2, h3, h4⟩ | ⟨h0, h1, h2, h3, h4⟩
  all_goals
    go_enter Try.func20, Try.ntmps20
    go_wp2_with (go_at_call 39; refine (within_any _ _ _ _).mono ?_; rintro e w' ⟨rfl, rfl⟩)
    go_ret
    exact ⟨ret_int (by simp [okE, *]), (Ext.refl _ _).alloc _⟩
theorem machineFault_any (m : Mc) (w : World) : Calls Try.prog 21 #[.agg m.cells.toArray] w fun e w' => e = .returned (.int .i64 (okE m.okB 9)) ∧ Ext [] w w' := by
  obtain ⟨m0, m1, m2, m3, m4⟩ := m
  simp only [Mc.cells, Mc.okB]
  rcases five (inR m0 1 524288) (inR m1 2 8) (inR m2 256 4096) (inR m3 2 8) (inR m4 1 4) with h0 | ⟨h0, h1⟩ | ⟨h0, h1, h2⟩ | ⟨h0, h1, h2, h3⟩ | ⟨h0, h1, h2, h3, h4⟩ | ⟨h0, h1, h2, h3, h4⟩
  all_goals
    go_enter Try.func21, Try.ntmps21
    go_wp2_with (go_at_call 53; refine (within2_any _ _ _ _).mono ?_; rintro e w' ⟨rfl, rfl⟩)
    go_ret
    exact ⟨ret_int (by simp [okE, *]), (Ext.refl _ _).alloc _⟩

/-- Is a field in its range? -/
def fieldOk (m : Mc) (kind n : Int) : Bool :=
  if kind = 1 then inR n 0 15 else if kind = 2 then inR n 0 7 else if kind = 3 then inR n 0 (m.banks - 1) else if kind = 4 then inR n 0 (m.queues - 1) else if kind = 5 then inR n (-2147483648) 2147483647 else true
theorem field_any (m : Mc) (kind n : Int) (w : World) (hk : 0 ≤ kind ∧ kind ≤ 5) (hb : 0 ≤ m.banks ∧ m.banks ≤ 1000) (hq : 0 ≤ m.queues ∧ m.queues ≤ 1000) :
    Calls Try.prog 77 #[.agg m.cells.toArray, .int .i64 kind, .int .i64 n] w fun e w' => e = .returned (.bool (fieldOk m kind n)) ∧ Ext [] w w' := by
  obtain ⟨m0, m1, m2, m3, m4⟩ := m
  obtain ⟨hb0, hb1⟩ := hb
  obtain ⟨hq0, hq1⟩ := hq
  simp only [Mc.cells] at *
  have hc : kind = 0 ∨ kind = 1 ∨ kind = 2 ∨ kind = 3 ∨ kind = 4 ∨ kind = 5 := by omega
  clear hk
  rcases hc with rfl | rfl | rfl | rfl | rfl | rfl
  all_goals
    go_enter Try.func77, Try.ntmps77
    go_wp2_with (first
      | (go_at_call 39; refine (within_any _ _ _ _).mono ?_; rintro e w' ⟨rfl, rfl⟩)
      | (go_at_call 63; refine (isWord_any _ _).mono ?_; rintro e w' ⟨rfl, rfl⟩))
    go_ret
    exact ⟨ret_bool (by simp [fieldOk]), (Ext.refl _ _).alloc _⟩

/-- The form of an instruction. -/
structure Frm where
  k : Bool
  d : Int
  a : Int
  b : Int
  c : Int
  n : Int
  m : Int
  p : Bool
def Frm.cells (s : ByteArray) (f : Frm) : List Value := [.string s, .bool f.k, .int .i64 f.d, .int .i64 f.a, .int .i64 f.b, .int .i64 f.c, .int .i64 f.n, .int .i64 f.m, .bool f.p]
def nz (b : Bool) (v : Int) : Int := match b with | true => v | false => 0
/-- The form of an operation. -/
def opForm (k reg : Int) (p : Bool) : Frm :=
  ⟨true, reg, reg, nz (decide (2 ≤ argsN k)) reg, nz (argsN k == 3) reg, nz (k == 12 || k == 13 || k == 14) 5, nz (k == 12) 5, p⟩

/-- A form that is a result. -/
theorem results_frm {fn : Func} {p : Tmp} (h : fn.results = #[.cell p 87]) (tmps : Array Value) (w : World) (g : Nat) (s : ByteArray) (x : Frm)
    (hp : tmps.getD p undef = .pointer (some ⟨g, 0, none⟩)) (hg : Blk w g 87 (Frm.cells s x).toArray) : (results fn tmps).run Try.prog w = .ok (.agg (Frm.cells s x).toArray) w :=
  results_cell_row h tmps w g _ (Frm.cells s x).toArray (0, 0) _ hp hg Try.underlying87 rfl (by kernel_rfl)

theorem op_cases (k : Int) : (k = 15) ∨ (k = 12) ∨ (k = 13) ∨ (k = 14) ∨ (k = 11) ∨ (inR k 4 10 = true ∧ (k == 15) = false ∧ (k == 12) = false ∧ (k == 13) = false ∧ (k == 14) = false ∧ argsN k = 2) ∨
    ((k == 15) = false ∧ (k == 12) = false ∧ (k == 13) = false ∧ (k == 14) = false ∧ argsN k = 0) := by
  by_cases h1 : k = 15
  · exact .inl h1
  by_cases h2 : k = 12
  · exact .inr (.inl h2)
  by_cases h3 : k = 13
  · exact .inr (.inr (.inl h3))
  by_cases h4 : k = 14
  · exact .inr (.inr (.inr (.inl h4)))
  by_cases h5 : k = 11
  · exact .inr (.inr (.inr (.inr (.inl h5))))
  have e1 : (k == 15) = false := by simpa using h1
  have e2 : (k == 12) = false := by simpa using h2
  have e3 : (k == 13) = false := by simpa using h3
  have e4 : (k == 14) = false := by simpa using h4
  by_cases h6 : inR k 4 10 = true
  · exact .inr (.inr (.inr (.inr (.inr (.inl ⟨h6, e1, e2, e3, e4, by simp [argsN, h1, h6]⟩)))))
  · refine .inr (.inr (.inr (.inr (.inr (.inr ⟨e1, e2, e3, e4, ?_⟩)))))
    have h7 : inR k 11 14 = false := by
      cases h : inR k 11 14
      · rfl
      · have := inR_iff.1 h; omega
    simp only [argsN, if_neg h1, if_neg h6, h7]
    rfl

set_option maxHeartbeats 2000000 in
theorem operation_any (s : ByteArray) (k reg : Int) (p : Bool) (w : World) :
    Calls Try.prog 76 #[.string s, .int .i64 k, .int .i64 reg, .bool p] w fun e w' => e = .returned (.agg (Frm.cells s (opForm k reg p)).toArray) ∧ Ext [] w w' := by
  rcases op_cases k with rfl | rfl | rfl | rfl | rfl | ⟨h0, h1, h2, h3, h4, h5⟩ | ⟨h1, h2, h3, h4, h5⟩
  · have e : opForm 15 reg p = ⟨true, reg, reg, reg, reg, 0, 0, p⟩ := rfl
    rw [e]
    go_enter Try.func76, Try.ntmps76
    go_wp2_with (go_at_call 78; refine (argsOf_any _ _).mono ?_; rintro e w' ⟨rfl, rfl⟩; simp only [show argsN 15 = 3 from rfl])
    exact bodyPost_ret (results_frm rfl _ _ w.heap.size s ⟨true, reg, reg, reg, reg, 0, 0, p⟩ rfl ((Blk.new w _ _).alloc _)) rfl ⟨rfl, ((Ext.refl _ _).alloc _).alloc _⟩
  · have e : opForm 12 reg p = ⟨true, reg, reg, 0, 0, 5, 5, p⟩ := rfl
    rw [e]
    go_enter Try.func76, Try.ntmps76
    go_wp2_with (go_at_call 78; refine (argsOf_any _ _).mono ?_; rintro e w' ⟨rfl, rfl⟩; simp only [show argsN 12 = 1 from rfl])
    exact bodyPost_ret (results_frm rfl _ _ w.heap.size s ⟨true, reg, reg, 0, 0, 5, 5, p⟩ rfl ((Blk.new w _ _).alloc _)) rfl ⟨rfl, ((Ext.refl _ _).alloc _).alloc _⟩
  · have e : opForm 13 reg p = ⟨true, reg, reg, 0, 0, 5, 0, p⟩ := rfl
    rw [e]
    go_enter Try.func76, Try.ntmps76
    go_wp2_with (go_at_call 78; refine (argsOf_any _ _).mono ?_; rintro e w' ⟨rfl, rfl⟩; simp only [show argsN 13 = 1 from rfl])
    exact bodyPost_ret (results_frm rfl _ _ w.heap.size s ⟨true, reg, reg, 0, 0, 5, 0, p⟩ rfl ((Blk.new w _ _).alloc _)) rfl ⟨rfl, ((Ext.refl _ _).alloc _).alloc _⟩
  · have e : opForm 14 reg p = ⟨true, reg, reg, 0, 0, 5, 0, p⟩ := rfl
    rw [e]
    go_enter Try.func76, Try.ntmps76
    go_wp2_with (go_at_call 78; refine (argsOf_any _ _).mono ?_; rintro e w' ⟨rfl, rfl⟩; simp only [show argsN 14 = 1 from rfl])
    exact bodyPost_ret (results_frm rfl _ _ w.heap.size s ⟨true, reg, reg, 0, 0, 5, 0, p⟩ rfl ((Blk.new w _ _).alloc _)) rfl ⟨rfl, ((Ext.refl _ _).alloc _).alloc _⟩
  · have e : opForm 11 reg p = ⟨true, reg, reg, 0, 0, 0, 0, p⟩ := rfl
    rw [e]
    go_enter Try.func76, Try.ntmps76
    go_wp2_with (go_at_call 78; refine (argsOf_any _ _).mono ?_; rintro e w' ⟨rfl, rfl⟩; simp only [show argsN 11 = 1 from rfl])
    exact bodyPost_ret (results_frm rfl _ _ w.heap.size s ⟨true, reg, reg, 0, 0, 0, 0, p⟩ rfl ((Blk.new w _ _).alloc _)) rfl ⟨rfl, ((Ext.refl _ _).alloc _).alloc _⟩
  · have e : opForm k reg p = ⟨true, reg, reg, reg, 0, 0, 0, p⟩ := by simp [opForm, nz, h2, h3, h4, h5]
    rw [e]
    have H5 := hd h5
    clear h5 e
    go_enter Try.func76, Try.ntmps76
    go_wp2_with (go_at_call 78; refine (argsOf_any _ _).mono ?_; rintro e w' ⟨rfl, rfl⟩; rw [H5.out])
    exact bodyPost_ret (results_frm rfl _ _ w.heap.size s ⟨true, reg, reg, reg, 0, 0, 0, p⟩ rfl ((Blk.new w _ _).alloc _)) rfl ⟨rfl, ((Ext.refl _ _).alloc _).alloc _⟩
  · have e : opForm k reg p = ⟨true, reg, reg, 0, 0, 0, 0, p⟩ := by simp [opForm, nz, h2, h3, h4, h5]
    rw [e]
    have H5 := hd h5
    clear h5 e
    go_enter Try.func76, Try.ntmps76
    go_wp2_with (go_at_call 78; refine (argsOf_any _ _).mono ?_; rintro e w' ⟨rfl, rfl⟩; rw [H5.out])
    exact bodyPost_ret (results_frm rfl _ _ w.heap.size s ⟨true, reg, reg, 0, 0, 0, 0, p⟩ rfl ((Blk.new w _ _).alloc _)) rfl ⟨rfl, ((Ext.refl _ _).alloc _).alloc _⟩
end Go.Proofs.Ytedabpldigcffaa
namespace Go.Proofs.Ytedabpldigcffaa
open Go.RowKit

/-- Which fields an instruction uses, by its kind. -/
def formS (x : Ins) : Option Frm :=
  if x.op = 1 then some (⟨false, 1, 0, 0, 0, 5, 0, true⟩ : Frm)
  else if x.op = 2 then some (opForm x.k 1 true)
  else if x.op = 3 then some (⟨false, 1, 0, 0, 5, 5, 5, false⟩ : Frm)
  else if x.op = 4 then some (⟨false, 0, 0, 0, 0, 0, 0, false⟩ : Frm)
  else if x.op = 5 then some (⟨false, 1, 1, 0, 0, 5, 0, true⟩ : Frm)
  else if x.op = 6 then some (⟨false, 0, 1, 1, 0, 5, 0, true⟩ : Frm)
  else if x.op = 7 then some (⟨false, 1, 1, 0, 3, 5, 0, true⟩ : Frm)
  else if x.op = 8 then some (⟨false, 0, 1, 1, 3, 5, 0, true⟩ : Frm)
  else if x.op = 9 then some (⟨false, 2, 1, 0, 3, 5, 0, false⟩ : Frm)
  else if x.op = 10 then some (⟨false, 0, 1, 2, 3, 5, 0, false⟩ : Frm)
  else if x.op = 11 then some (opForm x.k 2 false)
  else if x.op = 12 then some (⟨false, 2, 1, 0, 0, 0, 0, false⟩ : Frm)
  else if x.op = 13 then some (⟨false, 1, 2, 0, 0, 5, 0, false⟩ : Frm)
  else if x.op = 14 then some (⟨false, 0, 1, 0, 3, 5, 5, false⟩ : Frm)
  else if x.op = 15 then some (⟨false, 0, 2, 0, 0, 0, 0, false⟩ : Frm)
  else if x.op = 16 then some (⟨false, 0, 0, 0, 0, 0, 0, false⟩ : Frm)
  else if x.op = 17 then some (⟨false, 2, 0, 0, 0, 0, 0, false⟩ : Frm)
  else if x.op = 18 then some (⟨true, 4, 1, 1, 3, 5, 5, false⟩ : Frm)
  else if x.op = 19 then some (⟨false, 4, 0, 0, 0, 0, 0, false⟩ : Frm)
  else none
def zF : Frm := ⟨false, 0, 0, 0, 0, 0, 0, false⟩

theorem results_frm2 {fn : Func} {p u : Tmp} (h : fn.results = #[.cell p 87, .tmp u]) (tmps : Array Value) (w : World) (g : Nat) (s : ByteArray) (x : Frm) (b : Bool)
    (hp : tmps.getD p undef = .pointer (some ⟨g, 0, none⟩)) (hu : tmps.getD u undef = .bool b) (hg : Blk w g 87 (Frm.cells s x).toArray) :
    (results fn tmps).run Try.prog w = .ok (.tuple #[.agg (Frm.cells s x).toArray, .bool b]) w := by
  have hl := run_loadVar_row (P := Try.prog) w g _ 87 (Frm.cells s x).toArray (0, 0) _ hg Try.underlying87 rfl (by kernel_rfl)
  rw [results_cell_tmp h, hp, hu]
  simp only [asAddr, Sem.run_pure, Result.andThen_ok, hl]

/-- What formOf answers. -/
def FormOf (x : Ins) (w : World) (e : Ending) (w' : World) : Prop := (∃ s : ByteArray, e = .returned (.tuple #[.agg (Frm.cells s ((formS x).getD zF)).toArray, .bool (formS x).isSome])) ∧ Ext [] w w'

theorem formOf_1 (k d a b c p n m : Int) (w : World) : Calls Try.prog 54 #[.agg (Ins.cells ⟨1, k, d, a, b, c, p, n, m⟩).toArray] w (FormOf ⟨1, k, d, a, b, c, p, n, m⟩ w) := by
  simp only [Ins.cells]
  go_enter Try.func54, Try.ntmps54
  go_wp2_with fail
  exact bodyPost_ret (results_frm2 rfl _ _ (w.heap.size + 1) ⟨#[110, 117, 109]⟩ ⟨false, 1, 0, 0, 0, 5, 0, true⟩ true rfl rfl (Blk.new' _ _ _ _ (by simp))) rfl ⟨⟨_, rfl⟩, ((Ext.refl _ _).alloc _).alloc _⟩
theorem formOf_2 (k d a b c p n m : Int) (w : World) : Calls Try.prog 54 #[.agg (Ins.cells ⟨2, k, d, a, b, c, p, n, m⟩).toArray] w (FormOf ⟨2, k, d, a, b, c, p, n, m⟩ w) := by
  simp only [Ins.cells]
  go_enter Try.func54, Try.ntmps54
  go_wp2_with fail
  refine (operation_any _ _ _ _ _).mono ?_
  rintro e w1 ⟨rfl, hE⟩
  have hE1 : Ext [] w w1 := (((Ext.refl [] w).alloc _).alloc _).trans hE
  have hB := (Blk.new' (w.alloc _) 87 _ (w.heap.size + 1) (by simp)).ext hE (by simp)
  obtain ⟨hc1, hf1⟩ := hB.both
  have hlt := hB.lt
  have HB := hd hB
  have HE := hd hE1
  clear hE hE1 hB
  have hS : formS ⟨2, k, d, a, b, c, p, n, m⟩ = some (opForm k 1 true) := rfl
  generalize opForm k 1 true = F at *
  have HS := hd hS
  clear hS
  obtain ⟨f1, f2, f3, f4, f5, f6, f7, f8⟩ := F
  simp only [Frm.cells]
  go_wp2_with fail
  refine bodyPost_ret (results_frm2 rfl _ _ (w.heap.size + 1) ⟨#[111, 112]⟩ ⟨f1, f2, f3, f4, f5, f6, f7, f8⟩ true rfl rfl (HB.out.all9 _ _ _ _ _ _ _ _ _)) rfl ⟨⟨⟨#[111, 112]⟩, by rw [HS.out]; rfl⟩, ?_⟩
  iterate 9 refine Ext.setAt (by right; omega) ?_
  exact HE.out
theorem formOf_3 (k d a b c p n m : Int) (w : World) : Calls Try.prog 54 #[.agg (Ins.cells ⟨3, k, d, a, b, c, p, n, m⟩).toArray] w (FormOf ⟨3, k, d, a, b, c, p, n, m⟩ w) := by
  simp only [Ins.cells]
  go_enter Try.func54, Try.ntmps54
  go_wp2_with fail
  exact bodyPost_ret (results_frm2 rfl _ _ (w.heap.size + 1) ⟨#[108, 111, 111, 112]⟩ ⟨false, 1, 0, 0, 5, 5, 5, false⟩ true rfl rfl (Blk.new' _ _ _ _ (by simp))) rfl ⟨⟨_, rfl⟩, ((Ext.refl _ _).alloc _).alloc _⟩
theorem formOf_4 (k d a b c p n m : Int) (w : World) : Calls Try.prog 54 #[.agg (Ins.cells ⟨4, k, d, a, b, c, p, n, m⟩).toArray] w (FormOf ⟨4, k, d, a, b, c, p, n, m⟩ w) := by
  simp only [Ins.cells]
  go_enter Try.func54, Try.ntmps54
  go_wp2_with fail
  exact bodyPost_ret (results_frm2 rfl _ _ (w.heap.size + 1) ⟨#[101, 110, 100]⟩ ⟨false, 0, 0, 0, 0, 0, 0, false⟩ true rfl rfl (Blk.new' _ _ _ _ (by simp))) rfl ⟨⟨_, rfl⟩, ((Ext.refl _ _).alloc _).alloc _⟩
theorem formOf_5 (k d a b c p n m : Int) (w : World) : Calls Try.prog 54 #[.agg (Ins.cells ⟨5, k, d, a, b, c, p, n, m⟩).toArray] w (FormOf ⟨5, k, d, a, b, c, p, n, m⟩ w) := by
  simp only [Ins.cells]
  go_enter Try.func54, Try.ntmps54
  go_wp2_with fail
  exact bodyPost_ret (results_frm2 rfl _ _ (w.heap.size + 1) ⟨#[108, 100, 109]⟩ ⟨false, 1, 1, 0, 0, 5, 0, true⟩ true rfl rfl (Blk.new' _ _ _ _ (by simp))) rfl ⟨⟨_, rfl⟩, ((Ext.refl _ _).alloc _).alloc _⟩
theorem formOf_6 (k d a b c p n m : Int) (w : World) : Calls Try.prog 54 #[.agg (Ins.cells ⟨6, k, d, a, b, c, p, n, m⟩).toArray] w (FormOf ⟨6, k, d, a, b, c, p, n, m⟩ w) := by
  simp only [Ins.cells]
  go_enter Try.func54, Try.ntmps54
  go_wp2_with fail
  exact bodyPost_ret (results_frm2 rfl _ _ (w.heap.size + 1) ⟨#[115, 116, 109]⟩ ⟨false, 0, 1, 1, 0, 5, 0, true⟩ true rfl rfl (Blk.new' _ _ _ _ (by simp))) rfl ⟨⟨_, rfl⟩, ((Ext.refl _ _).alloc _).alloc _⟩
theorem formOf_7 (k d a b c p n m : Int) (w : World) : Calls Try.prog 54 #[.agg (Ins.cells ⟨7, k, d, a, b, c, p, n, m⟩).toArray] w (FormOf ⟨7, k, d, a, b, c, p, n, m⟩ w) := by
  simp only [Ins.cells]
  go_enter Try.func54, Try.ntmps54
  go_wp2_with fail
  exact bodyPost_ret (results_frm2 rfl _ _ (w.heap.size + 1) ⟨#[108, 100, 115]⟩ ⟨false, 1, 1, 0, 3, 5, 0, true⟩ true rfl rfl (Blk.new' _ _ _ _ (by simp))) rfl ⟨⟨_, rfl⟩, ((Ext.refl _ _).alloc _).alloc _⟩
theorem formOf_8 (k d a b c p n m : Int) (w : World) : Calls Try.prog 54 #[.agg (Ins.cells ⟨8, k, d, a, b, c, p, n, m⟩).toArray] w (FormOf ⟨8, k, d, a, b, c, p, n, m⟩ w) := by
  simp only [Ins.cells]
  go_enter Try.func54, Try.ntmps54
  go_wp2_with fail
  exact bodyPost_ret (results_frm2 rfl _ _ (w.heap.size + 1) ⟨#[115, 116, 115]⟩ ⟨false, 0, 1, 1, 3, 5, 0, true⟩ true rfl rfl (Blk.new' _ _ _ _ (by simp))) rfl ⟨⟨_, rfl⟩, ((Ext.refl _ _).alloc _).alloc _⟩
theorem formOf_9 (k d a b c p n m : Int) (w : World) : Calls Try.prog 54 #[.agg (Ins.cells ⟨9, k, d, a, b, c, p, n, m⟩).toArray] w (FormOf ⟨9, k, d, a, b, c, p, n, m⟩ w) := by
  simp only [Ins.cells]
  go_enter Try.func54, Try.ntmps54
  go_wp2_with fail
  exact bodyPost_ret (results_frm2 rfl _ _ (w.heap.size + 1) ⟨#[118, 108, 100]⟩ ⟨false, 2, 1, 0, 3, 5, 0, false⟩ true rfl rfl (Blk.new' _ _ _ _ (by simp))) rfl ⟨⟨_, rfl⟩, ((Ext.refl _ _).alloc _).alloc _⟩
theorem formOf_10 (k d a b c p n m : Int) (w : World) : Calls Try.prog 54 #[.agg (Ins.cells ⟨10, k, d, a, b, c, p, n, m⟩).toArray] w (FormOf ⟨10, k, d, a, b, c, p, n, m⟩ w) := by
  simp only [Ins.cells]
  go_enter Try.func54, Try.ntmps54
  go_wp2_with fail
  exact bodyPost_ret (results_frm2 rfl _ _ (w.heap.size + 1) ⟨#[118, 115, 116]⟩ ⟨false, 0, 1, 2, 3, 5, 0, false⟩ true rfl rfl (Blk.new' _ _ _ _ (by simp))) rfl ⟨⟨_, rfl⟩, ((Ext.refl _ _).alloc _).alloc _⟩
theorem formOf_11 (k d a b c p n m : Int) (w : World) : Calls Try.prog 54 #[.agg (Ins.cells ⟨11, k, d, a, b, c, p, n, m⟩).toArray] w (FormOf ⟨11, k, d, a, b, c, p, n, m⟩ w) := by
  simp only [Ins.cells]
  go_enter Try.func54, Try.ntmps54
  go_wp2_with fail
  refine (operation_any _ _ _ _ _).mono ?_
  rintro e w1 ⟨rfl, hE⟩
  have hE1 : Ext [] w w1 := (((Ext.refl [] w).alloc _).alloc _).trans hE
  have hB := (Blk.new' (w.alloc _) 87 _ (w.heap.size + 1) (by simp)).ext hE (by simp)
  obtain ⟨hc1, hf1⟩ := hB.both
  have hlt := hB.lt
  have HB := hd hB
  have HE := hd hE1
  clear hE hE1 hB
  have hS : formS ⟨11, k, d, a, b, c, p, n, m⟩ = some (opForm k 2 false) := rfl
  generalize opForm k 2 false = F at *
  have HS := hd hS
  clear hS
  obtain ⟨f1, f2, f3, f4, f5, f6, f7, f8⟩ := F
  simp only [Frm.cells]
  go_wp2_with fail
  refine bodyPost_ret (results_frm2 rfl _ _ (w.heap.size + 1) ⟨#[118, 111, 112]⟩ ⟨f1, f2, f3, f4, f5, f6, f7, f8⟩ true rfl rfl (HB.out.all9 _ _ _ _ _ _ _ _ _)) rfl ⟨⟨⟨#[118, 111, 112]⟩, by rw [HS.out]; rfl⟩, ?_⟩
  iterate 9 refine Ext.setAt (by right; omega) ?_
  exact HE.out
theorem formOf_12 (k d a b c p n m : Int) (w : World) : Calls Try.prog 54 #[.agg (Ins.cells ⟨12, k, d, a, b, c, p, n, m⟩).toArray] w (FormOf ⟨12, k, d, a, b, c, p, n, m⟩ w) := by
  simp only [Ins.cells]
  go_enter Try.func54, Try.ntmps54
  go_wp2_with fail
  exact bodyPost_ret (results_frm2 rfl _ _ (w.heap.size + 1) ⟨#[118, 100, 117, 112]⟩ ⟨false, 2, 1, 0, 0, 0, 0, false⟩ true rfl rfl (Blk.new' _ _ _ _ (by simp))) rfl ⟨⟨_, rfl⟩, ((Ext.refl _ _).alloc _).alloc _⟩
theorem formOf_13 (k d a b c p n m : Int) (w : World) : Calls Try.prog 54 #[.agg (Ins.cells ⟨13, k, d, a, b, c, p, n, m⟩).toArray] w (FormOf ⟨13, k, d, a, b, c, p, n, m⟩ w) := by
  simp only [Ins.cells]
  go_enter Try.func54, Try.ntmps54
  go_wp2_with fail
  exact bodyPost_ret (results_frm2 rfl _ _ (w.heap.size + 1) ⟨#[118, 103, 101, 116]⟩ ⟨false, 1, 2, 0, 0, 5, 0, false⟩ true rfl rfl (Blk.new' _ _ _ _ (by simp))) rfl ⟨⟨_, rfl⟩, ((Ext.refl _ _).alloc _).alloc _⟩
theorem formOf_14 (k d a b c p n m : Int) (w : World) : Calls Try.prog 54 #[.agg (Ins.cells ⟨14, k, d, a, b, c, p, n, m⟩).toArray] w (FormOf ⟨14, k, d, a, b, c, p, n, m⟩ w) := by
  simp only [Ins.cells]
  go_enter Try.func54, Try.ntmps54
  go_wp2_with fail
  exact bodyPost_ret (results_frm2 rfl _ _ (w.heap.size + 1) ⟨#[119, 116, 115]⟩ ⟨false, 0, 1, 0, 3, 5, 5, false⟩ true rfl rfl (Blk.new' _ _ _ _ (by simp))) rfl ⟨⟨_, rfl⟩, ((Ext.refl _ _).alloc _).alloc _⟩
theorem formOf_15 (k d a b c p n m : Int) (w : World) : Calls Try.prog 54 #[.agg (Ins.cells ⟨15, k, d, a, b, c, p, n, m⟩).toArray] w (FormOf ⟨15, k, d, a, b, c, p, n, m⟩ w) := by
  simp only [Ins.cells]
  go_enter Try.func54, Try.ntmps54
  go_wp2_with fail
  exact bodyPost_ret (results_frm2 rfl _ _ (w.heap.size + 1) ⟨#[109, 97, 99]⟩ ⟨false, 0, 2, 0, 0, 0, 0, false⟩ true rfl rfl (Blk.new' _ _ _ _ (by simp))) rfl ⟨⟨_, rfl⟩, ((Ext.refl _ _).alloc _).alloc _⟩
theorem formOf_16 (k d a b c p n m : Int) (w : World) : Calls Try.prog 54 #[.agg (Ins.cells ⟨16, k, d, a, b, c, p, n, m⟩).toArray] w (FormOf ⟨16, k, d, a, b, c, p, n, m⟩ w) := by
  simp only [Ins.cells]
  go_enter Try.func54, Try.ntmps54
  go_wp2_with fail
  exact bodyPost_ret (results_frm2 rfl _ _ (w.heap.size + 1) ⟨#[99, 108, 114]⟩ ⟨false, 0, 0, 0, 0, 0, 0, false⟩ true rfl rfl (Blk.new' _ _ _ _ (by simp))) rfl ⟨⟨_, rfl⟩, ((Ext.refl _ _).alloc _).alloc _⟩
theorem formOf_17 (k d a b c p n m : Int) (w : World) : Calls Try.prog 54 #[.agg (Ins.cells ⟨17, k, d, a, b, c, p, n, m⟩).toArray] w (FormOf ⟨17, k, d, a, b, c, p, n, m⟩ w) := by
  simp only [Ins.cells]
  go_enter Try.func54, Try.ntmps54
  go_wp2_with fail
  exact bodyPost_ret (results_frm2 rfl _ _ (w.heap.size + 1) ⟨#[97, 99, 99]⟩ ⟨false, 2, 0, 0, 0, 0, 0, false⟩ true rfl rfl (Blk.new' _ _ _ _ (by simp))) rfl ⟨⟨_, rfl⟩, ((Ext.refl _ _).alloc _).alloc _⟩
theorem formOf_18 (k d a b c p n m : Int) (w : World) : Calls Try.prog 54 #[.agg (Ins.cells ⟨18, k, d, a, b, c, p, n, m⟩).toArray] w (FormOf ⟨18, k, d, a, b, c, p, n, m⟩ w) := by
  simp only [Ins.cells]
  go_enter Try.func54, Try.ntmps54
  go_wp2_with fail
  exact bodyPost_ret (results_frm2 rfl _ _ (w.heap.size + 1) ⟨#[116, 114]⟩ ⟨true, 4, 1, 1, 3, 5, 5, false⟩ true rfl rfl (Blk.new' _ _ _ _ (by simp))) rfl ⟨⟨_, rfl⟩, ((Ext.refl _ _).alloc _).alloc _⟩
theorem formOf_19 (k d a b c p n m : Int) (w : World) : Calls Try.prog 54 #[.agg (Ins.cells ⟨19, k, d, a, b, c, p, n, m⟩).toArray] w (FormOf ⟨19, k, d, a, b, c, p, n, m⟩ w) := by
  simp only [Ins.cells]
  go_enter Try.func54, Try.ntmps54
  go_wp2_with fail
  exact bodyPost_ret (results_frm2 rfl _ _ (w.heap.size + 1) ⟨#[119, 97, 105, 116]⟩ ⟨false, 4, 0, 0, 0, 0, 0, false⟩ true rfl rfl (Blk.new' _ _ _ _ (by simp))) rfl ⟨⟨_, rfl⟩, ((Ext.refl _ _).alloc _).alloc _⟩
theorem formOf_else (o k d a b c p n m : Int) (w : World) (h : ¬ (1 ≤ o ∧ o ≤ 19)) : Calls Try.prog 54 #[.agg (Ins.cells ⟨o, k, d, a, b, c, p, n, m⟩).toArray] w (FormOf ⟨o, k, d, a, b, c, p, n, m⟩ w) := by
  have t1 : (o == 1) = false := beq_eq_false_iff_ne.2 (by omega)
  have t2 : (o == 2) = false := beq_eq_false_iff_ne.2 (by omega)
  have t3 : (o == 3) = false := beq_eq_false_iff_ne.2 (by omega)
  have t4 : (o == 4) = false := beq_eq_false_iff_ne.2 (by omega)
  have t5 : (o == 5) = false := beq_eq_false_iff_ne.2 (by omega)
  have t6 : (o == 6) = false := beq_eq_false_iff_ne.2 (by omega)
  have t7 : (o == 7) = false := beq_eq_false_iff_ne.2 (by omega)
  have t8 : (o == 8) = false := beq_eq_false_iff_ne.2 (by omega)
  have t9 : (o == 9) = false := beq_eq_false_iff_ne.2 (by omega)
  have t10 : (o == 10) = false := beq_eq_false_iff_ne.2 (by omega)
  have t11 : (o == 11) = false := beq_eq_false_iff_ne.2 (by omega)
  have t12 : (o == 12) = false := beq_eq_false_iff_ne.2 (by omega)
  have t13 : (o == 13) = false := beq_eq_false_iff_ne.2 (by omega)
  have t14 : (o == 14) = false := beq_eq_false_iff_ne.2 (by omega)
  have t15 : (o == 15) = false := beq_eq_false_iff_ne.2 (by omega)
  have t16 : (o == 16) = false := beq_eq_false_iff_ne.2 (by omega)
  have t17 : (o == 17) = false := beq_eq_false_iff_ne.2 (by omega)
  have t18 : (o == 18) = false := beq_eq_false_iff_ne.2 (by omega)
  have t19 : (o == 19) = false := beq_eq_false_iff_ne.2 (by omega)
  have hS : formS ⟨o, k, d, a, b, c, p, n, m⟩ = none := by
    have u1 : ¬ o = 1 := by omega
    have u2 : ¬ o = 2 := by omega
    have u3 : ¬ o = 3 := by omega
    have u4 : ¬ o = 4 := by omega
    have u5 : ¬ o = 5 := by omega
    have u6 : ¬ o = 6 := by omega
    have u7 : ¬ o = 7 := by omega
    have u8 : ¬ o = 8 := by omega
    have u9 : ¬ o = 9 := by omega
    have u10 : ¬ o = 10 := by omega
    have u11 : ¬ o = 11 := by omega
    have u12 : ¬ o = 12 := by omega
    have u13 : ¬ o = 13 := by omega
    have u14 : ¬ o = 14 := by omega
    have u15 : ¬ o = 15 := by omega
    have u16 : ¬ o = 16 := by omega
    have u17 : ¬ o = 17 := by omega
    have u18 : ¬ o = 18 := by omega
    have u19 : ¬ o = 19 := by omega
    simp only [formS, u1, u2, u3, u4, u5, u6, u7, u8, u9, u10, u11, u12, u13, u14, u15, u16, u17, u18, u19, if_false]
  have HS := hd hS
  clear hS h
  simp only [Ins.cells]
  go_enter Try.func54, Try.ntmps54
  go_wp2_with fail
  exact bodyPost_ret (results_frm2 rfl _ _ (w.heap.size + 1) ⟨#[]⟩ zF false rfl rfl (Blk.new' _ _ _ _ (by simp))) rfl ⟨⟨⟨#[]⟩, by rw [HS.out]; rfl⟩, ((Ext.refl _ _).alloc _).alloc _⟩

theorem formOf_any (x : Ins) (w : World) : Calls Try.prog 54 #[.agg x.cells.toArray] w (FormOf x w) := by
  obtain ⟨o, k, d, a, b, c, p, n, m⟩ := x
  by_cases h : 1 ≤ o ∧ o ≤ 19
  · have hc : o = 1 ∨ o = 2 ∨ o = 3 ∨ o = 4 ∨ o = 5 ∨ o = 6 ∨ o = 7 ∨ o = 8 ∨ o = 9 ∨ o = 10 ∨ o = 11 ∨ o = 12 ∨ o = 13 ∨ o = 14 ∨ o = 15 ∨ o = 16 ∨ o = 17 ∨ o = 18 ∨ o = 19 := by omega
    rcases hc with rfl | rfl | rfl | rfl | rfl | rfl | rfl | rfl | rfl | rfl | rfl | rfl | rfl | rfl | rfl | rfl | rfl | rfl | rfl
    · exact formOf_1 k d a b c p n m w
    · exact formOf_2 k d a b c p n m w
    · exact formOf_3 k d a b c p n m w
    · exact formOf_4 k d a b c p n m w
    · exact formOf_5 k d a b c p n m w
    · exact formOf_6 k d a b c p n m w
    · exact formOf_7 k d a b c p n m w
    · exact formOf_8 k d a b c p n m w
    · exact formOf_9 k d a b c p n m w
    · exact formOf_10 k d a b c p n m w
    · exact formOf_11 k d a b c p n m w
    · exact formOf_12 k d a b c p n m w
    · exact formOf_13 k d a b c p n m w
    · exact formOf_14 k d a b c p n m w
    · exact formOf_15 k d a b c p n m w
    · exact formOf_16 k d a b c p n m w
    · exact formOf_17 k d a b c p n m w
    · exact formOf_18 k d a b c p n m w
    · exact formOf_19 k d a b c p n m w
  · exact formOf_else o k d a b c p n m w h
end Go.Proofs.Ytedabpldigcffaa
namespace Go.Proofs.Ytedabpldigcffaa
open Go.RowKit

def Frm.fs (f : Frm) : List Int := [f.d, f.a, f.b, f.c, f.n, f.m]
def Ins.xs (x : Ins) : List Int := [x.d, x.a, x.b, x.c, x.n, x.m]
/-- The first k pairs of fields, on top of e. -/
def unusedK (e : Bool) (fs xs : List Int) : Nat → Bool
  | 0 => e
  | k + 1 => unusedK e fs xs k || (fs.getD k 0 == 0 && xs.getD k 0 != 0)
/-- Is a field that is not used not zero? -/
def unusedS (f : Frm) (x : Ins) : Bool := unusedK ((!f.k && x.k != 0) || (!f.p && x.p != 0)) f.fs x.xs 6
/-- The pairs' cells. -/
def pairCells (f : Frm) (x : Ins) : Array Value :=
  #[.int .i64 f.d, .int .i64 x.d, .int .i64 f.a, .int .i64 x.a, .int .i64 f.b, .int .i64 x.b, .int .i64 f.c, .int .i64 x.c, .int .i64 f.n, .int .i64 x.n, .int .i64 f.m, .int .i64 x.m]
theorem pairCells_get (f : Frm) (x : Ins) (k : Nat) (hk : k < 6) : (pairCells f x)[k * 2]? = some (.int .i64 (f.fs.getD k 0)) ∧ (pairCells f x)[k * 2 + 1]? = some (.int .i64 (x.xs.getD k 0)) := by
  match k, hk with
  | 0, _ | 1, _ | 2, _ | 3, _ | 4, _ | 5, _ => exact ⟨rfl, rfl⟩

/-- The form and the instruction lie in two new blocks. -/
def UnSt (w : World) (fc xc : Array Value) (wx : World) : Prop := Ext [] w wx ∧ Blk wx w.heap.size 87 fc ∧ Blk wx (w.heap.size + 1) 64 xc

theorem unusedK_succ (e : Bool) (fs xs : List Int) (k : Nat) : unusedK e fs xs (k + 1) = (unusedK e fs xs k || (fs.getD k 0 == 0 && xs.getD k 0 != 0)) := rfl

set_option maxHeartbeats 2000000 in
set_option maxRecDepth 100000 in
theorem unused_any (s : ByteArray) (f : Frm) (x : Ins) (w : World) :
    Calls Try.prog 55 #[.agg (Frm.cells s f).toArray, .agg x.cells.toArray] w fun e w' => e = .returned (.bool (unusedS f x)) ∧ Ext [] w w' := by
  have HP := hd (pairCells_get f x)
  have HU : Hd (unusedS f x = unusedK ((!f.k && x.k != 0) || (!f.p && x.p != 0)) f.fs x.xs 6) := hd rfl
  have HX := hd (show pairCells f x = _ from rfl)
  generalize hfs : f.fs = fs at *
  generalize hxs : x.xs = xs at *
  generalize hpc : pairCells f x = pc at *
  generalize hus : unusedS f x = us at *
  have Hpc := hd hpc
  clear hfs hxs hpc hus HX
  obtain ⟨fk, fd, fa, fb, fc, fn, fm, fp⟩ := f
  obtain ⟨xo, xk, xd, xa, xb, xc, xp, xn, xm⟩ := x
  simp only [Frm.cells, Ins.cells, pairCells] at *
  go_enter Try.func55, Try.ntmps55
  go_upto_region 1 with fail
  go_cut [5] (fun sl wx => sl = .bool ((!fk && xk != 0) || (!fp && xp != 0)) ∧ UnSt w (Frm.cells s ⟨fk, fd, fa, fb, fc, fn, fm, fp⟩).toArray (Ins.cells ⟨xo, xk, xd, xa, xb, xc, xp, xn, xm⟩).toArray wx)
  case first =>
    generalize hx1 : (xk != 0) = x1
    generalize hx2 : (xp != 0) = x2
    cases fk <;> cases fp <;> cases x1 <;> cases x2 <;> (go_wp2_with fail; go_meet; exact ⟨by rw [hx1, hx2]; rfl, ((Ext.refl _ _).alloc _).alloc _, (Blk.new _ _ _).alloc _, Blk.new' _ _ _ _ (by simp)⟩)
  case rest =>
    obtain ⟨rfl, hE0, hB1, hB2⟩ := hcut
    have hf1 := hB1.cell
    have hf2 := hB2.cell
    simp only [Frm.cells, Ins.cells] at hf1 hf2
    have HB1 := hd hB1
    have HB2 := hd hB2
    have hl1 := hB1.lt
    have hl2 := hB2.lt
    clear hB1 hB2
    generalize he0 : ((!fk && xk != 0) || (!fp && xp != 0)) = e0 at *
    clear he0
    go_wp2_with fail
    have hpb : ∀ (wr : World), Ext [] (wc.alloc (.cells (pairCells ⟨fk, fd, fa, fb, fc, fn, fm, fp⟩ ⟨xo, xk, xd, xa, xb, xc, xp, xn, xm⟩) 124)) wr → ∀ i, wr.cell? ⟨wc.heap.size, i, none⟩ = pc[i]? := fun wr h i => by
      rw [← Hpc.out]; exact ((Blk.new wc 124 _).ext h (by simp)).cell i
    have HPB := hd hpb
    clear hpb hf1 hf2
    go_loopw [5, 58] (fun e i wr => ∃ k : Nat, i = .int .i64 k ∧ k ≤ 6 ∧ e = .bool (unusedK e0 fs xs k) ∧ Ext [] (wc.alloc (.cells (pairCells ⟨fk, fd, fa, fb, fc, fn, fm, fp⟩ ⟨xo, xk, xd, xa, xb, xc, xp, xn, xm⟩) 124)) wr) (fun _ i _ => (6 - intOf i).toNat)
    case atStart => exact ⟨0, rfl, by omega, rfl, Ext.refl _ _⟩
    case round =>
      obtain ⟨k, rfl, hk, rfl, hE⟩ := hrel
      by_cases hlt : k < 6
      · have hc := HPB.out _ hE
        have h1 := (HP.out k hlt).1
        have h2 := (HP.out k hlt).2
        rw [← hc] at h1 h2
        have HK := hd (unusedK_succ e0 fs xs k)
        generalize unusedK e0 fs xs k = e1 at *
        generalize fs.getD k 0 = y0 at *
        generalize xs.getD k 0 = y1 at *
        clear hc
        have h0 : e1 = true ∨ (e1 = false ∧ (y0 == 0) = false) ∨ (e1 = false ∧ (y0 == 0) = true ∧ (y1 != 0) = false) ∨ (e1 = false ∧ (y0 == 0) = true ∧ (y1 != 0) = true) := by cases e1 <;> cases (y0 == 0) <;> cases (y1 != 0) <;> simp
        rcases h0 with rfl | ⟨rfl, h3⟩ | ⟨rfl, h3, h4⟩ | ⟨rfl, h3, h4⟩
        all_goals
          go_wp2_with fail
          go_round
          case rel => exact ⟨k + 1, by go_num, by omega, by rw [HK.out]; first | rfl | (rw [h3]; first | rfl | (rw [h4]; rfl)), hE.alloc _⟩
          case measure => simp [intOf]; omega
      · have h6 : k = 6 := by omega
        subst h6
        clear hk hlt
        go_wp2_with fail
        go_ret
        exact ⟨ret_bool HU.out.symm, hE0.trans ((((Ext.refl _ _).alloc _).trans hE))⟩
end Go.Proofs.Ytedabpldigcffaa
