/- Package chip works at the small machine. -/
import Derived.Test.YtedabpldigcffaaChipJ
namespace Go.Proofs.Ytedabpldigcffaa
open Go.RowKit
set_option linter.unusedSimpArgs false
set_option linter.unusedVariables false
attribute [local irreducible] relAt

theorem small_any (w : World) : Calls Try.prog 45 #[] w fun e w' => e = .returned (.agg #[.int .i64 8, .int .i64 2, .int .i64 256, .int .i64 2, .int .i64 1]) ∧ Ext [] w w' := by
  go_enter Try.func45, Try.ntmps45
  go_wp2_with fail
  exact bodyPost_ret (results_cell_row rfl _ _ w.heap.size 40 #[.int .i64 8, .int .i64 2, .int .i64 256, .int .i64 2, .int .i64 1] (0, 0) _ rfl (Blk.new _ _ _) Try.underlying40 rfl (by kernel_rfl)) rfl ⟨rfl, (Ext.refl _ _).alloc _⟩

def sFixS : Spec := ⟨Unit, (), fun _ => .agg #[.int .i64 8, .int .i64 2, .int .i64 256, .int .i64 2, .int .i64 1], fun _ _ => True⟩
def sZeros : Spec := ⟨Nat, 0, fun b => .slice (some ⟨b, 0, none⟩) 8 8, fun b w => NumsAt w b 0 zero8 ∧ b < w.heap.size⟩
def sRun : Spec := ⟨Nat × Nat, (0, 0), fun x => .tuple #[.slice (some ⟨x.1, 0, none⟩) 8 x.2, .int .i64 21, .int .i64 0], fun x w => w.cell? ⟨x.1, 3, none⟩ = some (.int .i64 5)⟩
theorem sZeros.stays : ∀ y w w', RH [] w w' → sZeros.V y w → sZeros.V y w' := fun _ _ _ hR h => ⟨h.1.ext hR.1 List.not_mem_nil, Nat.lt_of_lt_of_le h.2 hR.1.size⟩
theorem sRun.stays : ∀ y w w', RH [] w w' → sRun.V y w → sRun.V y w' := fun _ _ _ hR h => hR.1.held h List.not_mem_nil
theorem rdc_blk {w : World} {b : Nat} {t : TypeId} {xs : List Ins} (h : Blk w b t (codeCells xs).toArray) : RdC w (some ⟨b, 0, none⟩) xs :=
  .inr ⟨b, 0, rfl, fun k x hx j v hv => by rw [h.cell, Nat.zero_add]; simp [codeCells_get xs k x hx j v hv]⟩
theorem check_z : checkS mS [zI] = 4 := by decide +kernel

set_option maxHeartbeats 1000000 in
set_option maxRecDepth 100000 in
theorem chips_any (w : World) : Calls Try.prog 13 #[] w fun e w' => e = .returned (.bool true) ∧ Ext [] w w' := by
  have hmk : ∀ W : World, (Instr.makeSlice 22 (.int .i64 8) (.int .i64 8)).run Try.prog W = .ok (.slice (some ⟨W.heap.size, 0, none⟩) 8 8) (W.alloc (.cells (madeCells #[.int .i64 0] 8) 3)) := fun W =>
    run_make_row' 22 3 (.int .i64 0) 8 Try.underlying22 (by kernel_rfl) rfl .i64 .i64 8 (by omega) (by omega) W
  have hm8 : madeCells #[.int .i64 0] 8 = Nums zero8 := by kernel_rfl
  go_enter Try.func13, Try.ntmps13
  go_wp2_with fail
  have HC := hd (rdc_blk (xs := [x0, x1]) (Blk.new w 64 _))
  refine wp_region_rel 10 (JH [] _) (RH []) (kinds [(0, sFixS), (2, sZeros), (3, sRun)]) (by kernel_rfl) (by kernel_rfl) JH.less ?_ JH.start ?_
  · exact Stays.cons (fun _ _ _ _ h => h) (Stays.cons sZeros.stays (Stays.cons sRun.stays Stays.nil))
  simp only [List.take_succ_cons, List.take_zero, List.drop_succ_cons, List.drop_zero]
  refine rel_ext sFixS rfl rfl ?_ ?_
  · apply Exists.intro
    apply Exists.intro
    refine ⟨fun wr => ?_, fun wr nr hJ _ => ?_⟩
    · go_simp
      first | exact ⟨rfl, rfl⟩ | rfl
    · refine (small_any wr).mono ?_
      rintro e w' ⟨he, hE⟩
      exact ⟨(), he, trivial, hE⟩
  intro _
  simp only [Act.put, List.setIfInBounds_toArray, List.set_cons_succ, List.set_cons_zero]
  dsimp only [sFixS]
  repeat
    refine relAt_det rfl rfl ?_
    apply Exists.intro
    refine ⟨fun wr nr hJ => ?_, ?_⟩
    · skip
      clear hJ
      (go_simp; try go_bits)
      first | rfl | exact ⟨rfl, rfl⟩
    simp only [Act.put, List.setIfInBounds_toArray, List.set_cons_succ, List.set_cons_zero]
  refine rel_new sZeros rfl rfl ?_ ?_
  · intro wr nr hJ hf
    refine ⟨wr.heap.size, .cells (madeCells #[.int .i64 0] 8) 3, ?_, NumsAt.blk (by rw [hm8]; exact Blk.new _ _ _), by simp⟩
    go_simp
    rfl
  intro (b2 : Nat)
  simp only [Act.put, List.setIfInBounds_toArray, List.set_cons_succ, List.set_cons_zero]
  dsimp only [sZeros]
  refine rel_ext sRun rfl rfl ?_ ?_
  · apply Exists.intro
    apply Exists.intro
    refine ⟨fun wr => ?_, fun wr nr hJ hf => ?_⟩
    · go_simp
      first | exact ⟨rfl, rfl⟩ | rfl
    · have f2 : sZeros.V b2 wr := get_after hf 2 (by kernel_rfl)
      refine (run_small w.heap.size 2 b2 8 wr (HC.out.ext hJ.1 (by simp)) f2.1 f2.2).mono ?_
      rintro e w' ⟨x, he, hc, hE⟩
      exact ⟨x, he, hc, hE⟩
  intro (u3 : Nat × Nat)
  simp only [Act.put, List.setIfInBounds_toArray, List.set_cons_succ, List.set_cons_zero]
  dsimp only [sRun]
  repeat
    refine relAt_det rfl rfl ?_
    apply Exists.intro
    refine ⟨fun wr nr hJ => ?_, ?_⟩
    · skip
      clear hJ
      (go_simp; try go_bits)
      first | rfl | exact ⟨rfl, rfl⟩
    simp only [Act.put, List.setIfInBounds_toArray, List.set_cons_succ, List.set_cons_zero]
  refine relAt_nil (fun w2 hJ hF => ?_)
  have H3 : w2.cell? ⟨u3.1, 3, none⟩ = some (.int .i64 5) := hF 3
  have HE2 := hd (((Ext.refl [] w).alloc _).trans hJ.1)
  have hl3 := World.block_lt_of_cell? w2 _ H3
  simp only at hl3
  clear hF hJ
  go_wp2_with fail
  refine (small_any _).mono ?_
  rintro e w3 ⟨rfl, hE3⟩
  have HE3 := hd (HE2.out.trans hE3)
  clear hE3 H3 hl3
  go_wp2_with fail
  refine (check_any mS _ 1 [zI] _ (rdc_blk (xs := [zI]) (Blk.new w3 64 _)) (by decide)).mono ?_
  rintro e w4 ⟨rfl, hE4⟩
  rw [check_z]
  have HE4 := hd (HE3.out.trans (((Ext.refl [] w3).alloc _).trans hE4))
  clear hE4
  go_wp2_with fail
  go_ret
  exact ⟨rfl, HE4.out⟩
end Go.Proofs.Ytedabpldigcffaa
