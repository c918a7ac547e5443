/- The checker's small functions: within, isWord, argsOf, CheckMachine, field, operation, formOf. -/
import Derived.Test.YtedabpldigcffaaDraw
namespace Go.Proofs.Ytedabpldigcffaa
open Go.RowKit

/-- lo ≤ n ≤ hi. -/
def inR (n lo hi : Int) : Bool := decide (lo ≤ n) && decide (n ≤ hi)
theorem inR_iff {n lo hi : Int} : inR n lo hi = true ↔ lo ≤ n ∧ n ≤ hi := by simp [inR]

/-- A machine. -/
structure Mc where
  main : Int
  banks : Int
  bank : Int
  lanes : Int
  queues : Int
def Mc.cells (m : Mc) : List Value := [.int .i64 m.main, .int .i64 m.banks, .int .i64 m.bank, .int .i64 m.lanes, .int .i64 m.queues]
def Mc.okB (m : Mc) : Bool := inR m.main 1 524288 && inR m.banks 2 8 && inR m.bank 256 4096 && inR m.lanes 2 8 && inR m.queues 1 4

theorem within_any (n lo hi : Int) (w : World) : Calls Try.prog 39 #[.int .i64 n, .int .i64 lo, .int .i64 hi] w fun e w' => e = .returned (.bool (inR n lo hi)) ∧ w = w' := by
  by_cases h1 : lo ≤ n
  · go_enter Try.func39, Try.ntmps39
    go_wp2
    go_ret
    exact ⟨ret_bool (by simp [inR, h1]), rfl⟩
  · have h2 : decide (lo ≤ n) = false := by simpa using h1
    go_enter Try.func39, Try.ntmps39
    go_wp2
    go_ret
    exact ⟨ret_bool (by simp [inR]; omega), rfl⟩
theorem within2_any (n lo hi : Int) (w : World) : Calls Try.prog 53 #[.int .i64 n, .int .i64 lo, .int .i64 hi] w fun e w' => e = .returned (.bool (inR n lo hi)) ∧ w = w' := by
  by_cases h1 : lo ≤ n
  · go_enter Try.func53, Try.ntmps53
    go_wp2
    go_ret
    exact ⟨ret_bool (by simp [inR, h1]), rfl⟩
  · have h2 : decide (lo ≤ n) = false := by simpa using h1
    go_enter Try.func53, Try.ntmps53
    go_wp2
    go_ret
    exact ⟨ret_bool (by simp [inR]; omega), rfl⟩
theorem isWord_any (n : Int) (w : World) : Calls Try.prog 63 #[.int .i64 n] w fun e w' => e = .returned (.bool (inR n (-2147483648) 2147483647)) ∧ w = w' := by
  go_enter Try.func63, Try.ntmps63
  go_wp2_with (go_at_call 39; refine (within_any _ _ _ _).mono ?_; rintro e w' ⟨rfl, rfl⟩)
  go_ret
  exact ⟨rfl, rfl⟩

/-- How many arguments an operation has. -/
def argsN (k : Int) : Int := if k = 15 then 3 else if inR k 4 10 then 2 else if inR k 11 14 then 1 else 0
theorem argsOf_any (k : Int) (w : World) : Calls Try.prog 78 #[.int .i64 k] w fun e w' => e = .returned (.int .i64 (argsN k)) ∧ w = w' := by
  by_cases h1 : k = 15
  · have h2 : (k == 15) = true := by simpa using h1
    have H : Hd (argsN k = 3) := hd (by simp [argsN, h1])
    clear h1
    go_enter Try.func78, Try.ntmps78
    go_wp2_with fail
    go_ret
    exact ⟨ret_int H.out.symm, rfl⟩
  · have h2 : (k == 15) = false := by simpa using h1
    have H : Hd (argsN k = if inR k 4 10 then 2 else if inR k 11 14 then 1 else 0) := hd (by simp [argsN, h1])
    clear h1
    cases h3 : inR k 4 10 <;> cases h4 : inR k 11 14
    all_goals
      have H2 := H.out
      rw [h3, h4] at H2
      replace H2 := hd H2
      go_enter Try.func78, Try.ntmps78
      go_wp2_with (go_at_call 39; refine (within_any _ _ _ _).mono ?_; rintro e w' ⟨rfl, rfl⟩)
      go_ret
      exact ⟨ret_int H2.out.symm, rfl⟩

/-- No error, or e. -/
def okE (b : Bool) (e : Int) : Int := match b with | true => 0 | false => e
theorem five (a b c d e : Bool) : a = false ∨ (a = true ∧ b = false) ∨ (a = true ∧ b = true ∧ c = false) ∨ (a = true ∧ b = true ∧ c = true ∧ d = false) ∨ (a = true ∧ b = true ∧ c = true ∧ d = true ∧ e = false) ∨ (a = true ∧ b = true ∧ c = true ∧ d = true ∧ e = true) := by
  cases a <;> cases b <;> cases c <;> cases d <;> cases e <;> simp
theorem checkMachine_any (m : Mc) (w : World) : Calls Try.prog 20 #[.agg m.cells.toArray] w fun e w' => e = .returned (.int .i64 (okE m.okB 9)) ∧ Ext [] w w' := by
  obtain ⟨m0, m1, m2, m3, m4⟩ := m
  simp only [Mc.cells, Mc.okB]
  rcases five (inR m0 1 524288) (inR m1 2 8) (inR m2 256 4096) (inR m3 2 8) (inR m4 1 4) with h0 | ⟨h0, h1⟩ | ⟨h0, h1, h2⟩ | ⟨h0, h1, h2, h3⟩ | ⟨h0, h1, h2, h3, h4⟩ | ⟨h0, h1, h2, h3, h4⟩
  all_goals
    go_enter Try.func20, Try.ntmps20
    go_wp2_with (go_at_call 39; refine (within_any _ _ _ _).mono ?_; rintro e w' ⟨rfl, rfl⟩)
    go_ret
    exact ⟨ret_int (by simp [okE, *]), (Ext.refl _ _).alloc _⟩
theorem machineFault_any (m : Mc) (w : World) : Calls Try.prog 21 #[.agg m.cells.toArray] w fun e w' => e = .returned (.int .i64 (okE m.okB 9)) ∧ Ext [] w w' := by
  obtain ⟨m0, m1, m2, m3, m4⟩ := m
  simp only [Mc.cells, Mc.okB]
  rcases five (inR m0 1 524288) (inR m1 2 8) (inR m2 256 4096) (inR m3 2 8) (inR m4 1 4) with h0 | ⟨h0, h1⟩ | ⟨h0, h1, h2⟩ | ⟨h0, h1, h2, h3⟩ | ⟨h0, h1, h2, h3, h4⟩ | ⟨h0, h1, h2, h3, h4⟩
  all_goals
    go_enter Try.func21, Try.ntmps21
    go_wp2_with (go_at_call 53; refine (within2_any _ _ _ _).mono ?_; rintro e w' ⟨rfl, rfl⟩)
    go_ret
    exact ⟨ret_int (by simp [okE, *]), (Ext.refl _ _).alloc _⟩

/-- Is a field in its range? -/
def fieldOk (m : Mc) (kind n : Int) : Bool :=
  if kind = 1 then inR n 0 15 else if kind = 2 then inR n 0 7 else if kind = 3 then inR n 0 (m.banks - 1) else if kind = 4 then inR n 0 (m.queues - 1) else if kind = 5 then inR n (-2147483648) 2147483647 else true
theorem field_any (m : Mc) (kind n : Int) (w : World) (hk : 0 ≤ kind ∧ kind ≤ 5) (hb : 0 ≤ m.banks ∧ m.banks ≤ 1000) (hq : 0 ≤ m.queues ∧ m.queues ≤ 1000) :
    Calls Try.prog 77 #[.agg m.cells.toArray, .int .i64 kind, .int .i64 n] w fun e w' => e = .returned (.bool (fieldOk m kind n)) ∧ Ext [] w w' := by
  obtain ⟨m0, m1, m2, m3, m4⟩ := m
  obtain ⟨hb0, hb1⟩ := hb
  obtain ⟨hq0, hq1⟩ := hq
  simp only [Mc.cells] at *
  have hc : kind = 0 ∨ kind = 1 ∨ kind = 2 ∨ kind = 3 ∨ kind = 4 ∨ kind = 5 := by omega
  clear hk
  rcases hc with rfl | rfl | rfl | rfl | rfl | rfl
  all_goals
    go_enter Try.func77, Try.ntmps77
    go_wp2_with (first
      | (go_at_call 39; refine (within_any _ _ _ _).mono ?_; rintro e w' ⟨rfl, rfl⟩)
      | (go_at_call 63; refine (isWord_any _ _).mono ?_; rintro e w' ⟨rfl, rfl⟩))
    go_ret
    exact ⟨ret_bool (by simp [fieldOk]), (Ext.refl _ _).alloc _⟩

/-- The form of an instruction. -/
structure Frm where
  k : Bool
  d : Int
  a : Int
  b : Int
  c : Int
  n : Int
  m : Int
  p : Bool
def Frm.cells (s : ByteArray) (f : Frm) : List Value := [.string s, .bool f.k, .int .i64 f.d, .int .i64 f.a, .int .i64 f.b, .int .i64 f.c, .int .i64 f.n, .int .i64 f.m, .bool f.p]
def nz (b : Bool) (v : Int) : Int := match b with | true => v | false => 0
/-- The form of an operation. -/
def opForm (k reg : Int) (p : Bool) : Frm :=
  ⟨true, reg, reg, nz (decide (2 ≤ argsN k)) reg, nz (argsN k == 3) reg, nz (k == 12 || k == 13 || k == 14) 5, nz (k == 12) 5, p⟩

/-- A form that is a result. -/
theorem results_frm {fn : Func} {p : Tmp} (h : fn.results = #[.cell p 87]) (tmps : Array Value) (w : World) (g : Nat) (s : ByteArray) (x : Frm)
    (hp : tmps.getD p undef = .pointer (some ⟨g, 0, none⟩)) (hg : Blk w g 87 (Frm.cells s x).toArray) : (results fn tmps).run Try.prog w = .ok (.agg (Frm.cells s x).toArray) w :=
  results_cell_row h tmps w g _ (Frm.cells s x).toArray (0, 0) _ hp hg Try.underlying87 rfl (by kernel_rfl)

theorem op_cases (k : Int) : (k = 15) ∨ (k = 12) ∨ (k = 13) ∨ (k = 14) ∨ (k = 11) ∨ (inR k 4 10 = true ∧ (k == 15) = false ∧ (k == 12) = false ∧ (k == 13) = false ∧ (k == 14) = false ∧ argsN k = 2) ∨
    ((k == 15) = false ∧ (k == 12) = false ∧ (k == 13) = false ∧ (k == 14) = false ∧ argsN k = 0) := by
  by_cases h1 : k = 15
  · exact .inl h1
  by_cases h2 : k = 12
  · exact .inr (.inl h2)
  by_cases h3 : k = 13
  · exact .inr (.inr (.inl h3))
  by_cases h4 : k = 14
  · exact .inr (.inr (.inr (.inl h4)))
  by_cases h5 : k = 11
  · exact .inr (.inr (.inr (.inr (.inl h5))))
  have e1 : (k == 15) = false := by simpa using h1
  have e2 : (k == 12) = false := by simpa using h2
  have e3 : (k == 13) = false := by simpa using h3
  have e4 : (k == 14) = false := by simpa using h4
  by_cases h6 : inR k 4 10 = true
  · exact .inr (.inr (.inr (.inr (.inr (.inl ⟨h6, e1, e2, e3, e4, by simp [argsN, h1, h6]⟩)))))
  · refine .inr (.inr (.inr (.inr (.inr (.inr ⟨e1, e2, e3, e4, ?_⟩)))))
    have h7 : inR k 11 14 = false := by
      cases h : inR k 11 14
      · rfl
      · have := inR_iff.1 h; omega
    simp only [argsN, if_neg h1, if_neg h6, h7]
    rfl

set_option maxHeartbeats 2000000 in
theorem operation_any (s : ByteArray) (k reg : Int) (p : Bool) (w : World) :
    Calls Try.prog 76 #[.string s, .int .i64 k, .int .i64 reg, .bool p] w fun e w' => e = .returned (.agg (Frm.cells s (opForm k reg p)).toArray) ∧ Ext [] w w' := by
  rcases op_cases k with rfl | rfl | rfl | rfl | rfl | ⟨h0, h1, h2, h3, h4, h5⟩ | ⟨h1, h2, h3, h4, h5⟩
  · have e : opForm 15 reg p = ⟨true, reg, reg, reg, reg, 0, 0, p⟩ := rfl
    rw [e]
    go_enter Try.func76, Try.ntmps76
    go_wp2_with (go_at_call 78; refine (argsOf_any _ _).mono ?_; rintro e w' ⟨rfl, rfl⟩; simp only [show argsN 15 = 3 from rfl])
    exact bodyPost_ret (results_frm rfl _ _ w.heap.size s ⟨true, reg, reg, reg, reg, 0, 0, p⟩ rfl ((Blk.new w _ _).alloc _)) rfl ⟨rfl, ((Ext.refl _ _).alloc _).alloc _⟩
  · have e : opForm 12 reg p = ⟨true, reg, reg, 0, 0, 5, 5, p⟩ := rfl
    rw [e]
    go_enter Try.func76, Try.ntmps76
    go_wp2_with (go_at_call 78; refine (argsOf_any _ _).mono ?_; rintro e w' ⟨rfl, rfl⟩; simp only [show argsN 12 = 1 from rfl])
    exact bodyPost_ret (results_frm rfl _ _ w.heap.size s ⟨true, reg, reg, 0, 0, 5, 5, p⟩ rfl ((Blk.new w _ _).alloc _)) rfl ⟨rfl, ((Ext.refl _ _).alloc _).alloc _⟩
  · have e : opForm 13 reg p = ⟨true, reg, reg, 0, 0, 5, 0, p⟩ := rfl
    rw [e]
    go_enter Try.func76, Try.ntmps76
    go_wp2_with (go_at_call 78; refine (argsOf_any _ _).mono ?_; rintro e w' ⟨rfl, rfl⟩; simp only [show argsN 13 = 1 from rfl])
    exact bodyPost_ret (results_frm rfl _ _ w.heap.size s ⟨true, reg, reg, 0, 0, 5, 0, p⟩ rfl ((Blk.new w _ _).alloc _)) rfl ⟨rfl, ((Ext.refl _ _).alloc _).alloc _⟩
  · have e : opForm 14 reg p = ⟨true, reg, reg, 0, 0, 5, 0, p⟩ := rfl
    rw [e]
    go_enter Try.func76, Try.ntmps76
    go_wp2_with (go_at_call 78; refine (argsOf_any _ _).mono ?_; rintro e w' ⟨rfl, rfl⟩; simp only [show argsN 14 = 1 from rfl])
    exact bodyPost_ret (results_frm rfl _ _ w.heap.size s ⟨true, reg, reg, 0, 0, 5, 0, p⟩ rfl ((Blk.new w _ _).alloc _)) rfl ⟨rfl, ((Ext.refl _ _).alloc _).alloc _⟩
  · have e : opForm 11 reg p = ⟨true, reg, reg, 0, 0, 0, 0, p⟩ := rfl
    rw [e]
    go_enter Try.func76, Try.ntmps76
    go_wp2_with (go_at_call 78; refine (argsOf_any _ _).mono ?_; rintro e w' ⟨rfl, rfl⟩; simp only [show argsN 11 = 1 from rfl])
    exact bodyPost_ret (results_frm rfl _ _ w.heap.size s ⟨true, reg, reg, 0, 0, 0, 0, p⟩ rfl ((Blk.new w _ _).alloc _)) rfl ⟨rfl, ((Ext.refl _ _).alloc _).alloc _⟩
  · have e : opForm k reg p = ⟨true, reg, reg, reg, 0, 0, 0, p⟩ := by simp [opForm, nz, h2, h3, h4, h5]
    rw [e]
    have H5 := hd h5
    clear h5 e
    go_enter Try.func76, Try.ntmps76
    go_wp2_with (go_at_call 78; refine (argsOf_any _ _).mono ?_; rintro e w' ⟨rfl, rfl⟩; rw [H5.out])
    exact bodyPost_ret (results_frm rfl _ _ w.heap.size s ⟨true, reg, reg, reg, 0, 0, 0, p⟩ rfl ((Blk.new w _ _).alloc _)) rfl ⟨rfl, ((Ext.refl _ _).alloc _).alloc _⟩
  · have e : opForm k reg p = ⟨true, reg, reg, 0, 0, 0, 0, p⟩ := by simp [opForm, nz, h2, h3, h4, h5]
    rw [e]
    have H5 := hd h5
    clear h5 e
    go_enter Try.func76, Try.ntmps76
    go_wp2_with (go_at_call 78; refine (argsOf_any _ _).mono ?_; rintro e w' ⟨rfl, rfl⟩; rw [H5.out])
    exact bodyPost_ret (results_frm rfl _ _ w.heap.size s ⟨true, reg, reg, 0, 0, 0, 0, p⟩ rfl ((Blk.new w _ _).alloc _)) rfl ⟨rfl, ((Ext.refl _ _).alloc _).alloc _⟩
end Go.Proofs.Ytedabpldigcffaa
