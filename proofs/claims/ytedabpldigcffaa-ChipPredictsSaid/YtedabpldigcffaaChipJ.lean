/- The small machine runs, and package chip works. -/
import Derived.Test.YtedabpldigcffaaChipI
namespace Go.Proofs.Ytedabpldigcffaa
open Go.RowKit
set_option linter.unusedSimpArgs false
set_option linter.unusedVariables false

set_option maxRecDepth 100000 in
theorem step_3 {w : World} {c : Nat} {u : CU} {vb vs : Value} {r1 pc cyc : Int} (h : ChipAt w c u vb vs r1 pc cyc true) :
    Calls Try.prog 86 #[.pointer (some ⟨c, 0, none⟩)] w fun e w' => e = .returned (.bool false) ∧ w' = w := by
  have q168 := h.at 168 (.bool true) rfl
  have ql := h.lt
  clear h
  go_enter Try.func86, Try.ntmps86
  go_wp2_with fail
  go_ret
  exact ⟨rfl, rfl⟩

/-- Where the run stands. -/
def Stage (w : World) (c : Nat) (u : CU) (vb vs : Value) (k : Nat) : Prop :=
  (k = 0 ∧ St w c u vb vs 0 0 0 0 false) ∨ (k = 1 ∧ St w c u vb vs 5 1 1 0 false) ∨ (k = 2 ∧ ChipAt w c u vb vs 5 2 21 true ∧ w.cell? ⟨u.g3, 3, none⟩ = some (.int .i64 5))
def pcOf (w : World) (c : Nat) : Nat := match w.cell? ⟨c, 164, none⟩ with
  | some v => (2 - intOf v).toNat
  | none => 0
theorem Stage.pc {w : World} {c : Nat} {u : CU} {vb vs : Value} {k : Nat} (h : Stage w c u vb vs k) : pcOf w c = 2 - k := by
  unfold pcOf
  rcases h with ⟨rfl, h⟩ | ⟨rfl, h⟩ | ⟨rfl, h, _⟩
  · rw [h.idle.chip.at 164 (.int .i64 0) rfl]; rfl
  · rw [h.idle.chip.at 164 (.int .i64 1) rfl]; rfl
  · rw [h.at 164 (.int .i64 2) rfl]; rfl
theorem check_01 : checkS mS [x0, x1] = 0 := by decide +kernel
theorem flat_01 : flat [x0, x1] := by intro x hx; simp at hx; rcases hx with rfl | rfl <;> decide
def zero8 : List Int := [0, 0, 0, 0, 0, 0, 0, 0]

set_option maxHeartbeats 1000000 in
set_option maxRecDepth 100000 in
theorem finished_small (g1 c1 g3 c3 : Nat) (w : World) (h : RdC w (some ⟨g1, 0, none⟩) [x0, x1]) (hm : NumsAt w g3 0 zero8) (hg3 : g3 < w.heap.size) :
    Calls Try.prog 71 #[.agg #[.int .i64 8, .int .i64 2, .int .i64 256, .int .i64 2, .int .i64 1], .slice (some ⟨g1, 0, none⟩) 2 c1, .slice (some ⟨g3, 0, none⟩) 8 c3] w fun e w' =>
      ∃ b u vb vs, e = .returned (.tuple #[.pointer (some ⟨b, 0, none⟩), .int .i64 0]) ∧ Ext [] w w' ∧ Stage w' b u vb vs 2 := by
  have HH := hd h
  have HM := hd hm
  clear h hm
  have HN := hd (new_small g1 c1 g3 c3 [x0, x1] zero8)
  go_enter Try.func71, Try.ntmps71
  go_wp2_with fail
  refine (HN.out _ (HH.out.ext ((Ext.refl [] w).alloc _) (by simp)) (by decide) (by decide) flat_01 check_01 (HM.out.ext ((Ext.refl [] w).alloc _) (by simp)) rfl (by decide) (by simp; omega)).mono ?_
  rintro e w1 ⟨b, u, vb, vs, rfl, hE, hCF, hBk, h1, h3, h4, h5⟩
  have HE1 := hd (((Ext.refl [] w).alloc _).trans hE)
  have hbw : w.heap.size ≤ b := Nat.le_trans (by simp) h5
  have hmain : ∀ i v, ([Value.int .i64 0, .int .i64 0, .int .i64 0, .int .i64 0, .int .i64 0, .int .i64 0, .int .i64 0, .int .i64 0] : List Value)[i]? = some v → w1.cell? ⟨u.g3, i, none⟩ = some v := fun i v hi => row_cells hCF.main i v hi
  have hg3w : w.heap.size ≤ u.g3 := by
    obtain ⟨g, c, he, hge, _⟩ := hCF.main.form (by decide)
    cases he
    exact Nat.le_trans (by simp) hge
  have hfz : w1.frozen? ⟨u.g3, 3, none⟩ = false ∧ 8 ≤ u.c3 := by
    rcases hCF.main.2 with ⟨h0, _⟩ | ⟨g, c, cur, he, _, hg, hn, _⟩
    · cases h0
    · cases he
      exact ⟨by simp [World.frozen?, hg], hn⟩
  have hcode0 : w1.cell? ⟨u.g1, 0, none⟩ = some (.int .i64 1) := by
    rcases hCF.code with h0 | ⟨b', o, he, hc⟩
    · cases h0
    · cases he
      exact hc 0 x0 rfl 0 _ rfl
  have hS : St w1 b u vb vs 0 0 0 0 false := by
    refine ⟨⟨hBk, hCF.queue, by omega⟩, hCF.code, hmain 3 _ rfl, hfz.1, hfz.2, by omega, by omega, fun e => ?_, fun e => ?_⟩
    · rw [← e, hmain 0 _ rfl] at hcode0
      cases hcode0
    · have := hCF.queue.cell 0
      rw [← e, hmain 0 _ rfl] at this
      cases this
  have HS : Hd (Stage w1 b u vb vs 0) := hd (.inl ⟨rfl, hS⟩)
  clear hE hCF hBk h1 h3 h4 h5 hmain hfz hcode0 hS
  go_wp2_with fail
  go_loopw [20] (fun p wr => ∃ k : Nat, Hd (Stage wr b u vb vs k) ∧ Ext [b, u.g3] w1 wr) (fun _ wr => pcOf wr b)
  case atStart => exact ⟨0, HS, Ext.refl _ _⟩
  case round =>
    obtain ⟨k, hSt, hE⟩ := hrel
    have HE := hd hE
    have HP := hd hSt.out.pc
    clear hE
    rcases hSt.out with ⟨rfl, h⟩ | ⟨rfl, h⟩ | ⟨rfl, h, hc⟩
    · have HH2 := hd h
      clear h
      go_wp2_with fail
      refine (step_1 HH2.out).mono ?_
      rintro e w2 ⟨rfl, hE2, hS2⟩
      have HE2 := hd (HE.out.trans hE2)
      have HS2 : Hd (Stage w2 b u vb vs 1) := hd (.inr (.inl ⟨rfl, hS2⟩))
      clear hE2 hS2
      go_wp2_with fail
      go_round
      case rel => exact ⟨1, HS2, HE2.out⟩
      case measure => have h1 := HP.out; have h2 := HS2.out.pc; omega
    · have HH2 := hd h
      clear h
      go_wp2_with fail
      refine (step_2 HH2.out).mono ?_
      rintro e w2 ⟨rfl, hE2, hS2⟩
      have HE2 := hd (HE.out.trans hE2)
      have HS2 : Hd (Stage w2 b u vb vs 2) := hd (.inr (.inr ⟨rfl, hS2⟩))
      clear hE2 hS2
      go_wp2_with fail
      go_round
      case rel => exact ⟨2, HS2, HE2.out⟩
      case measure => have h1 := HP.out; have h2 := HS2.out.pc; omega
    · have HH2 := hd h
      have HS2 : Hd (Stage wr b u vb vs 2) := hd (.inr (.inr ⟨rfl, h, hc⟩))
      clear h hc
      go_wp2_with fail
      refine (step_3 HH2.out).mono ?_
      rintro e w2 ⟨rfl, rfl⟩
      go_wp2_with fail
      go_ret2
      refine ⟨b, u, vb, vs, rfl, HE1.out.step HE.out fun x hx => .inr ?_, HS2.out⟩
      simp at hx
      rcases hx with rfl | rfl
      · exact hbw
      · exact hg3w
set_option maxHeartbeats 1000000 in
set_option maxRecDepth 100000 in
theorem run_small (g1 c1 g3 c3 : Nat) (w : World) (h : RdC w (some ⟨g1, 0, none⟩) [x0, x1]) (hm : NumsAt w g3 0 zero8) (hg3 : g3 < w.heap.size) :
    Calls Try.prog 44 #[.agg #[.int .i64 8, .int .i64 2, .int .i64 256, .int .i64 2, .int .i64 1], .slice (some ⟨g1, 0, none⟩) 2 c1, .slice (some ⟨g3, 0, none⟩) 8 c3] w fun e w' =>
      ∃ x : Nat × Nat, e = .returned (.tuple #[.slice (some ⟨x.1, 0, none⟩) 8 x.2, .int .i64 21, .int .i64 0]) ∧ w'.cell? ⟨x.1, 3, none⟩ = some (.int .i64 5) ∧ Ext [] w w' := by
  have HH := hd h
  have HM := hd hm
  clear h hm
  go_enter Try.func44, Try.ntmps44
  go_wp2_with fail
  refine (finished_small g1 _ g3 _ _ (HH.out.ext ((Ext.refl [] w).alloc _) (by simp)) (HM.out.ext ((Ext.refl [] w).alloc _) (by simp)) (by simp; omega)).mono ?_
  rintro e w1 ⟨b, u, vb, vs, rfl, hE, hS⟩
  have HE1 := hd (((Ext.refl [] w).alloc _).trans hE)
  rcases hS with ⟨h0, _⟩ | ⟨h0, _⟩ | ⟨_, hC, hc⟩
  · cases h0
  · cases h0
  · have HC := hd hC
    have HCC := hd hc
    have q169 := hC.at 169 (.bool false) rfl
    have ql := hC.lt
    clear hE hC hc
    go_wp2_with fail
    clear q169 ql
    refine wp_region_rel 9 (JE _) (Ext []) (kinds []) (by kernel_rfl) (by kernel_rfl) JE.less ?_ JE.start ?_
    · repeat (first | exact Stays.nil | refine Stays.cons sFix.stays ?_)
    simp only [List.take_succ_cons, List.take_zero, List.drop_succ_cons, List.drop_zero]
    repeat
      refine relAt_det rfl rfl ?_
      apply Exists.intro
      refine ⟨fun wr nr hJ => ?_, ?_⟩
      · have hC := HC.out.ext hJ (by simp); have q7 := hC.at 7 (.slice (some ⟨u.g3, 0, none⟩) 8 u.c3) rfl; have q165 := hC.at 165 (.int .i64 21) rfl; have ql := hC.lt; clear hC
        clear hJ
        (go_simp; try go_bits)
        first | rfl | exact ⟨rfl, rfl⟩
      simp only [Act.put, List.setIfInBounds_toArray, List.set_cons_succ, List.set_cons_zero]
    refine relAt_nil (fun w2 hJ hF => ?_)
    have HE2 := hd (HE1.out.trans hJ)
    have HC2 := hd (hJ.held HCC.out (by simp))
    clear hF hJ
    go_wp2_with fail
    go_ret3
    exact ⟨(u.g3, u.c3), rfl, HC2.out, HE2.out⟩
end Go.Proofs.Ytedabpldigcffaa
