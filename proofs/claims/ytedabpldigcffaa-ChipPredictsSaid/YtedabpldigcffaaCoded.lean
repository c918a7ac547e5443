/- The stream's machines and code, for the statements on chips. -/
import Derived.Test.YtedabpldigcffaaSpoilC
import Derived.Test.YtedabpldigcffaaCode
import Derived.Test.YtedabpldigcffaaMach
namespace Go.Proofs.Ytedabpldigcffaa
open Go.RowKit
set_option linter.unusedSimpArgs false
set_option linter.unusedVariables false
attribute [local irreducible] relAt

/-- A slice of n instructions, in block B or a later one. -/
def Cs (w : World) (B : Nat) (v : Value) (n : Nat) : Prop := ∃ A cap xs, v = .slice A n cap ∧ xs.length = n ∧ RdC w A xs ∧ ∀ a, A = some a → B ≤ a.block
theorem Cs.of_cd {w : World} {B n : Nat} {v : Value} (h : Cd w B v n) : Cs w B v n := by
  rcases h with ⟨rfl, rfl⟩ | ⟨b, cap, rfl, h1, h2, hC, hb⟩
  · exact ⟨none, 0, [], rfl, rfl, .inl rfl, fun a h => by cases h⟩
  · obtain ⟨xs, hx, hr⟩ := hC.reads n h1
    exact ⟨_, cap, xs, rfl, hx, hr, fun a h => by cases h; exact hb⟩
theorem Cs.of_own {w : World} {B n : Nat} {v : Value} {xs : List Ins} (h : w.ownsRow B 64 9 v n (codeCells xs)) (hx : xs.length = n) : Cs w B v n := by
  obtain ⟨A, cap, rfl, hcap, hA⟩ := own_form h
  cases A with
  | none =>
    refine ⟨none, cap, xs, rfl, hx, .inl (List.eq_nil_of_length_eq_zero ?_), fun a h => by cases h⟩
    rcases Nat.eq_zero_or_pos n with h0 | h0
    · omega
    · obtain ⟨g, he, _⟩ := hA h0; cases he
  | some a =>
    rcases Nat.eq_zero_or_pos n with h0 | h0
    · rcases h.2 with ⟨he, _⟩ | ⟨g, cap', cur, he, hb, _⟩
      · cases he
      · cases he
        exact ⟨_, cap, xs, rfl, hx, .inl (List.eq_nil_of_length_eq_zero (by omega)), fun a h => by cases h; exact hb⟩
    · obtain ⟨g, he, hb, _⟩ := hA h0
      cases he
      refine ⟨_, cap, xs, rfl, hx, .inr ⟨g, 0, rfl, fun k x hxk j v hv => ?_⟩, fun a h => by cases h; exact hb⟩
      rw [Nat.zero_add]
      exact row_cells h _ v (codeCells_get xs k x hxk j v hv)
theorem Cs.ext {S : List Nat} {w w' : World} {B n : Nat} {v : Value} (h : Cs w B v n) (hE : Ext S w w') (hS : ∀ x, x ∈ S → x < B) : Cs w' B v n := by
  obtain ⟨A, cap, xs, rfl, hx, hr, hb⟩ := h
  exact ⟨A, cap, xs, rfl, hx, hr.ext hE (fun a ha hm => by have := hS _ hm; have := hb a ha; omega), hb⟩
theorem Cs.mono {w : World} {B C n : Nat} {v : Value} (h : Cs w B v n) (hC : C ≤ B) : Cs w C v n := by
  obtain ⟨A, cap, xs, rfl, hx, hr, hb⟩ := h
  exact ⟨A, cap, xs, rfl, hx, hr, fun a ha => Nat.le_trans hC (hb a ha)⟩

theorem spoiled_any (base g n len B : Nat) (v : Value) (w : World) (h : Cs w B v len) (hl : len ≤ 800000) (hS : Stm w base g (n + 10)) :
    Calls Try.prog 19 #[.pointer (some ⟨g, 0, none⟩), v] w fun e w' => ∃ v' k, e = .returned v' ∧ Cs w' w.heap.size v' k ∧ k ≤ len + 1 ∧ Ext [g] w w' ∧ Stm w' base g n := by
  obtain ⟨A, cap, xs, rfl, hx, hr, hb⟩ := h
  by_cases h0 : len = 0
  · subst h0
    have hx0 : xs = [] := List.eq_nil_of_length_eq_zero hx
    subst hx0
    refine (spoiled_empty base g n A cap w hr hS).mono ?_
    rintro e w' ⟨v', k, rfl, h1, h2, h3, h4⟩
    exact ⟨v', k, rfl, Cs.of_cd h1, h2, h3, h4⟩
  · refine (spoiled_some base g n A cap xs len w hr hx (by omega) hl hS).mono ?_
    rintro e w' ⟨v', k, rfl, h1, h2, h3, h4⟩
    exact ⟨v', k, rfl, Cs.of_cd h1, h2, h3, h4⟩

theorem results_mc {fn : Func} {p u : Tmp} (h : fn.results = #[.cell p 40, .tmp u]) (tmps : Array Value) (w : World) (g : Nat) (m : Mc) (v : Value)
    (hp : tmps.getD p undef = .pointer (some ⟨g, 0, none⟩)) (hu : tmps.getD u undef = v) (hg : Blk w g 40 m.cells.toArray) :
    (results fn tmps).run Try.prog w = .ok (.tuple #[.agg m.cells.toArray, v]) w := by
  have hl := run_loadVar_row (P := Try.prog) w g _ 40 m.cells.toArray (0, 0) _ hg Try.underlying40 rfl (by kernel_rfl)
  rw [results_cell_tmp h, hp, hu]
  simp only [asAddr, Sem.run_pure, Result.andThen_ok, hl]

/-- A machine and code. -/
def CodedP (base g n : Nat) (w : World) (e : Ending) (w' : World) : Prop :=
  ∃ (m : Mc) (v : Value) (len : Nat), e = .returned (.tuple #[.agg m.cells.toArray, v]) ∧ Cs w' w.heap.size v len ∧ len ≤ 60000 ∧ Ext [g] w w' ∧ Stm w' base g n

/-- The code so far. -/
def CodedSt (base g n : Nat) (w : World) (k : Nat) (v : Value) (wr : World) : Prop := Ext [g] w wr ∧ Stm wr base g (n + (10 - k) * 20) ∧ ∃ len, Cs wr (w.heap.size + 1) v len ∧ len ≤ 50000 + k

set_option maxHeartbeats 4000000 in
set_option maxRecDepth 100000 in
theorem coded_any (base g n : Nat) (w : World) (h : Stm w base g (n + 6001000)) :
    Calls Try.prog 17 #[.pointer (some ⟨g, 0, none⟩)] w (CodedP base g n w) := by
  have HST := hd h
  have HG := hd h.lt
  have HBW : Hd (base ≤ w.heap.size) := hd (Nat.le_trans h.base (Nat.le_of_lt h.lt))
  clear h
  go_enter Try.func17, Try.ntmps17
  go_wp2_with fail
  refine (machine_any base g (n + 6000900) _ ((HST.out.less (by omega)).alloc _)).mono ?_
  rintro e w1 ⟨⟨m0, m1, m2, m3, m4⟩, rfl, hE1, hS1⟩
  simp only [Mc.cells]
  have HR1 := hd (((Blk.new w 40 #[.int .i64 0, .int .i64 0, .int .i64 0, .int .i64 0, .int .i64 0]).ext hE1 (by have := HG.out; simp; omega)).alloc (.cells #[.int .i64 m0, .int .i64 m1, .int .i64 m2, .int .i64 m3, .int .i64 m4] 40))
  have HM1 := hd (Blk.new w1 40 #[.int .i64 m0, .int .i64 m1, .int .i64 m2, .int .i64 m3, .int .i64 m4])
  have HE1 : Hd (Ext [g] w (w1.alloc (.cells #[.int .i64 m0, .int .i64 m1, .int .i64 m2, .int .i64 m3, .int .i64 m4] 40))) := hd ((((Ext.refl [g] w).alloc _).trans hE1).alloc _)
  have HS1 := hd (hS1.alloc (.cells #[.int .i64 m0, .int .i64 m1, .int .i64 m2, .int .i64 m3, .int .i64 m4] 40))
  have hgw1 : g < w1.heap.size := hS1.lt
  have hww1 : w.heap.size < w1.heap.size := by have := hE1.size; simp at this; omega
  clear hE1 hS1
  go_wp2_with fail
  refine wp_region_rel 4 (JS base g (n+6000800) _) (Ext [g]) (kinds [(3, sBelow 15)]) (by kernel_rfl) (by kernel_rfl) JS.less ?_ (JS.start (Stm.less HS1.out (by omega))) ?_
  · repeat (first | exact Stays.nil | refine Stays.cons sAny.stays ?_ | refine Stays.cons sBool.stays ?_ | refine Stays.cons sNums.stays ?_ | refine Stays.cons sBlk.stays ?_ | refine Stays.cons sIns.stays ?_ | refine Stays.cons sInss.stays ?_ | refine Stays.cons sPtr.stays ?_ | refine Stays.cons sBelow.stays ?_)
  simp only [List.take_succ_cons, List.take_zero, List.drop_succ_cons, List.drop_zero]
  repeat
    refine relAt_det rfl rfl ?_
    apply Exists.intro
    refine ⟨fun wr nr hJ => ?_, ?_⟩
    · have qm := HM1.out.ext hJ.1 (by simp; omega); have qmc := qm.cell; have qml := qm.lt; clear qm
      clear hJ
      (go_simp; try go_bits)
      first | rfl | exact ⟨rfl, rfl⟩
    simp only [Act.put, List.setIfInBounds_toArray, List.set_cons_succ, List.set_cons_zero]
  refine rel_below 15 (by omega) rfl rfl ?_ ?_
  · apply Exists.intro
    apply Exists.intro
    refine ⟨fun wr => ?_, fun wr nr hJ hE => ?_⟩
    · go_simp
      first | exact ⟨rfl, rfl⟩ | rfl
    exact ⟨_, (by omega), (range_any base g _ 0 14 _ hJ (by omega) (by omega)).mono (Drawn.less (Nat.le_refl _) (fun r h => ⟨h.1, fun _ => by omega⟩))⟩
  intro (y1 : Int)
  simp only [Act.put, List.setIfInBounds_toArray, List.set_cons_succ, List.set_cons_zero]
  repeat
    refine relAt_det rfl rfl ?_
    apply Exists.intro
    refine ⟨fun wr nr hJ => ?_, ?_⟩
    · skip
      clear hJ
      (go_simp; try go_bits)
      first | rfl | exact ⟨rfl, rfl⟩
    simp only [Act.put, List.setIfInBounds_toArray, List.set_cons_succ, List.set_cons_zero]
  refine relAt_nil (fun w2 hJ hF => ?_)
  have hy : 0 ≤ y1 ∧ y1 < 15 := by simpa [upd, sBelow] using hF 3
  obtain ⟨many, rfl⟩ : ∃ k : Nat, y1 = k := ⟨y1.toNat, by omega⟩
  have hm14 : many ≤ 14 := by omega
  have HE2 := hd (HE1.out.trans hJ.1)
  have HM2 := hd (HM1.out.ext hJ.1 (by simp; omega))
  have HR2 := hd (HR1.out.ext hJ.1 (by have := HG.out; simp; omega))
  have HS2 := hd hJ.2
  have hww2 : w.heap.size ≤ w2.heap.size := HE2.out.size
  have hmw2 : w1.heap.size < w2.heap.size := HM2.out.lt
  clear hJ hF hy HM1 HR1 HS1
  go_wp2_with fail
  refine (code_any base g (n + 800) m0 m1 m2 m3 m4 many hm14 _ (HS2.out.less (by omega))).mono ?_
  rintro e w3 ⟨v, l, rfl, ho, hl, hE3, hS3⟩
  have HC3 : Hd (Cs w3 (w.heap.size + 1) v l.length) := hd ((Cs.of_own ho rfl).mono (by omega))
  have HE3 := hd (HE2.out.trans hE3)
  have HM3 := hd (HM2.out.ext hE3 (by simp; omega))
  have HR3 := hd (HR2.out.ext hE3 (by have := HG.out; simp; omega))
  have HS3 := hd hS3
  have HL := hd hl
  have hgw3 : g < w3.heap.size := hS3.lt
  have hmw3 : w1.heap.size < w3.heap.size := HM3.out.lt
  clear ho hl hE3 hS3
  go_wp2_with fail
  refine (pick_any base g (n + 700) w3.heap.size 5 3 [0, 0, 0, 1, 2] _ ((HS3.out.less (by omega)).alloc _) (Blk.new _ _ _) (by omega) (by decide)).mono ?_
  rintro e w4 ⟨rp, rfl, hrp, hE4, hS4⟩
  have hEE := ((Ext.refl [g] w3).alloc (.cells (Nums [0, 0, 0, 1, 2]) 3)).trans hE4
  have hr2 : 0 ≤ rp ∧ rp ≤ 2 := by simp at hrp; omega
  have HST4 : Hd (CodedSt base g n w 0 v w4) := hd ⟨HE3.out.trans hEE, hS4.less (by omega), _, HC3.out.ext hEE (by have := HG.out; simp; omega), HL.out⟩
  have hmw4 : w1.heap.size < w4.heap.size := by have := hEE.size; omega
  have HM4 := hd (HM3.out.ext hEE (by simp; omega))
  have HR4 := hd (HR3.out.ext hEE (by have := HG.out; simp; omega))
  clear hrp hE4 hS4 hEE
  go_wp2_with fail
  go_loopw [5, 16] (fun v i wr => ∃ k : Nat, i = .int .i64 k ∧ (k : Int) ≤ rp ∧ Hd (CodedSt base g n w k v wr) ∧ Hd (Ext [g] w4 wr)) (fun _ i _ => (rp - intOf i).toNat)
  case atStart => exact ⟨0, rfl, by omega, HST4, hd (Ext.refl _ _)⟩
  case round =>
    obtain ⟨k, rfl, hk, HL4, HE4⟩ := hrel
    by_cases hlt : (k : Int) < rp
    · go_wp2_with fail
      obtain ⟨h1, h2, len, h3, h4⟩ := HL4.out
      refine (spoiled_any base g (n + (10 - (k + 1)) * 20) len (w.heap.size + 1) _ _ h3 (by omega) (h2.less (by omega))).mono ?_
      rintro e w5 ⟨v', len', rfl, h5, h6, h7, h8⟩
      have HN : Hd (CodedSt base g n w (k + 1) v' w5) := hd ⟨h1.trans h7, h8, _, h5.mono (by have := HE4.out.size; omega), by omega⟩
      have HN2 := hd (HE4.out.trans h7)
      clear h1 h2 h3 h4 h5 h6 h7 h8
      go_wp2_with fail
      go_roundw
      case rel => exact ⟨k + 1, by go_num, by omega, HN, HN2⟩
      case measure => simp [intOf]; omega
    · have HM5 := hd (HM4.out.ext HE4.out (by simp; omega))
      have HR5 := hd (HR4.out.ext HE4.out (by have := HG.out; simp; omega))
      have qm := HM5.out.cell
      have qml := HM5.out.lt
      have qr := HR5.out.cell
      have qrf := HR5.out.frozen
      have qrl := HR5.out.lt
      go_wp2_with fail
      obtain ⟨h1, h2, len, h3, h4⟩ := HL4.out
      exact bodyPost_ret (results_mc rfl _ _ w.heap.size ⟨m0, m1, m2, m3, m4⟩ _ rfl rfl (Blk.all5 HR5.out _ _ _ _ _)) rfl
        ⟨⟨m0, m1, m2, m3, m4⟩, _, len, rfl, (h3.ext ((Ext.refl [w.heap.size] _).setAt5 (.inl (by simp)) _ _ _ _ _) (by simp)).mono (by omega), by omega, h1.setAt5 (.inr (Nat.le_refl _)) _ _ _ _ _, (h2.less (by omega)).setAt5 (by have := HG.out; omega) HBW.out _ _ _ _ _⟩
end Go.Proofs.Ytedabpldigcffaa
