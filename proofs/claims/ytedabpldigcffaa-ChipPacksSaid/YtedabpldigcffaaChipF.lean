/- The small machine's first steps: what an instruction touches. -/
import Derived.Test.YtedabpldigcffaaChipE
namespace Go.Proofs.Ytedabpldigcffaa
open Go.RowKit
set_option linter.unusedSimpArgs false
set_option linter.unusedVariables false

/-- A chip lies in block c. -/
def ChipAt (w : World) (c : Nat) (u : CU) (vb vs : Value) (r1 pc cyc : Int) (over : Bool) : Prop := Blk w c 117 (u.cells 2 8 vb vs r1 pc cyc over)
section
variable {w w' : World} {c : Nat} {u : CU} {vb vs : Value} {r1 pc cyc : Int} {over : Bool} {T : List Nat}
theorem ChipAt.ext (h : ChipAt w c u vb vs r1 pc cyc over) (hE : Ext T w w') (hc : c ∉ T) : ChipAt w' c u vb vs r1 pc cyc over := Blk.ext h hE hc
theorem ChipAt.lt (h : ChipAt w c u vb vs r1 pc cyc over) : c < w.heap.size := Blk.lt h
theorem ChipAt.at (h : ChipAt w c u vb vs r1 pc cyc over) (i : Nat) (v : Value) (hv : (u.cells 2 8 vb vs r1 pc cyc over)[i]? = some v) : w.cell? ⟨c, i, none⟩ = some v := (Blk.cell h i).trans hv
end
def x0 : Ins := ⟨1, 0, 1, 0, 0, 0, 0, 5, 0⟩
def x1 : Ins := ⟨6, 0, 0, 0, 1, 0, 0, 3, 0⟩

set_option maxHeartbeats 1000000 in
set_option maxRecDepth 100000 in
theorem touched_num {w : World} {c : Nat} {u : CU} {vb vs : Value} {r1 pc cyc : Int} {over : Bool} (h : ChipAt w c u vb vs r1 pc cyc over) :
    Calls Try.prog 119 #[.pointer (some ⟨c, 0, none⟩), .agg #[.int .i64 1, .int .i64 0, .int .i64 1, .int .i64 0, .int .i64 0, .int .i64 0, .int .i64 0, .int .i64 5, .int .i64 0]] w fun e w' => e = .returned (.tuple #[.slice none 0 0, .slice none 0 0]) ∧ Ext [] w w' := by
  have HH := hd h
  clear h
  have hb15 : bits BinOp.and IntKind.i64 0 15 = 0 := by decide +kernel
  go_enter Try.func119, Try.ntmps119
  go_wp2_with fail
  refine wp_region_rel 10 (JE _) (Ext []) (kinds []) (by kernel_rfl) (by kernel_rfl) JE.less ?_ JE.start ?_
  · repeat (first | exact Stays.nil | refine Stays.cons sFix.stays ?_)
  simp only [List.take_succ_cons, List.take_zero, List.drop_succ_cons, List.drop_zero]
  repeat
    refine relAt_det rfl rfl ?_
    apply Exists.intro
    refine ⟨fun wr nr hJ => ?_, ?_⟩
    · have hC := HH.out.ext (((Ext.refl [] w).alloc _).trans hJ) (by simp); have q10 := hC.at 10 (.int .i64 0) rfl; have ql := hC.lt; have qx := ((Blk.new w 64 #[.int .i64 1, .int .i64 0, .int .i64 1, .int .i64 0, .int .i64 0, .int .i64 0, .int .i64 0, .int .i64 5, .int .i64 0]).ext hJ (by simp)); have qxc := qx.cell; have qxl := qx.lt; clear qx hC
      clear hJ
      (go_simp; try go_bits)
      first | rfl | exact ⟨rfl, rfl⟩
    simp only [Act.put, List.setIfInBounds_toArray, List.set_cons_succ, List.set_cons_zero]
  refine relAt_nil (fun w1 hJ hF => ?_)
  have qx := ((Blk.new w 64 #[.int .i64 1, .int .i64 0, .int .i64 1, .int .i64 0, .int .i64 0, .int .i64 0, .int .i64 0, .int .i64 5, .int .i64 0]).ext hJ (by simp))
  have qxc := qx.cell
  have qxl := qx.lt
  have HE := hd (((Ext.refl [] w).alloc _).trans hJ)
  clear qx hF hJ
  go_wp2_with fail
  go_ret2
  exact ⟨rfl, HE.out⟩
set_option maxHeartbeats 1000000 in
set_option maxRecDepth 100000 in
theorem touched_stm {w : World} {c : Nat} {u : CU} {vb vs : Value} {r1 pc cyc : Int} {over : Bool} (h : ChipAt w c u vb vs r1 pc cyc over) :
    Calls Try.prog 119 #[.pointer (some ⟨c, 0, none⟩), .agg #[.int .i64 6, .int .i64 0, .int .i64 0, .int .i64 0, .int .i64 1, .int .i64 0, .int .i64 0, .int .i64 3, .int .i64 0]] w fun e w' => ∃ b : Nat, e = .returned (.tuple #[.slice none 0 0, .slice (some ⟨b, 0, none⟩) 1 1]) ∧ Ext [] w w' ∧ Blk w' b 154 #[.int .i64 (-1), .int .i64 3, .int .i64 1] := by
  have HH := hd h
  clear h
  have hb15 : bits BinOp.and IntKind.i64 0 15 = 0 := by decide +kernel
  go_enter Try.func119, Try.ntmps119
  go_wp2_with fail
  refine wp_region_rel 10 (JE _) (Ext []) (kinds []) (by kernel_rfl) (by kernel_rfl) JE.less ?_ JE.start ?_
  · repeat (first | exact Stays.nil | refine Stays.cons sFix.stays ?_)
  simp only [List.take_succ_cons, List.take_zero, List.drop_succ_cons, List.drop_zero]
  repeat
    refine relAt_det rfl rfl ?_
    apply Exists.intro
    refine ⟨fun wr nr hJ => ?_, ?_⟩
    · have hC := HH.out.ext (((Ext.refl [] w).alloc _).trans hJ) (by simp); have q10 := hC.at 10 (.int .i64 0) rfl; have ql := hC.lt; have qx := ((Blk.new w 64 #[.int .i64 6, .int .i64 0, .int .i64 0, .int .i64 0, .int .i64 1, .int .i64 0, .int .i64 0, .int .i64 3, .int .i64 0]).ext hJ (by simp)); have qxc := qx.cell; have qxl := qx.lt; clear qx hC
      clear hJ
      (go_simp; try go_bits)
      first | rfl | exact ⟨rfl, rfl⟩
    simp only [Act.put, List.setIfInBounds_toArray, List.set_cons_succ, List.set_cons_zero]
  refine relAt_nil (fun w1 hJ hF => ?_)
  have qx := ((Blk.new w 64 #[.int .i64 6, .int .i64 0, .int .i64 0, .int .i64 0, .int .i64 1, .int .i64 0, .int .i64 0, .int .i64 3, .int .i64 0]).ext hJ (by simp))
  have qxc := qx.cell
  have qxl := qx.lt
  have HE := hd (((Ext.refl [] w).alloc _).trans hJ)
  clear qx hF hJ
  go_wp2_with fail
  go_ret2
  exact ⟨_, rfl, HE.out.alloc _, Blk.new _ _ _⟩
set_option maxRecDepth 100000 in
theorem indexArea_nil (fv : Value) (w : World) : Calls Try.prog 130 #[.slice none 0 0, fv] w fun e w' => e = .returned (.int .i64 (-1)) ∧ Ext [] w w' := by
  go_enter Try.func130, Try.ntmps130
  go_wp2_with fail
  go_loopw [8] (fun i wr => i = .int .i64 0 ∧ Ext [] w wr) (fun _ _ => 0)
  case atStart => exact ⟨rfl, Ext.refl _ _⟩
  case round =>
    obtain ⟨rfl, hE⟩ := hrel
    have HE := hd hE
    clear hE
    go_wp2_with fail
    go_ret
    exact ⟨rfl, HE.out⟩
set_option maxRecDepth 100000 in
theorem containsArea_nil (fv : Value) (w : World) : Calls Try.prog 120 #[.slice none 0 0, fv] w fun e w' => e = .returned (.bool false) ∧ Ext [] w w' := by
  go_enter Try.func120, Try.ntmps120
  go_wp2_with fail
  refine (indexArea_nil fv w).mono ?_
  rintro e w' ⟨rfl, hE⟩
  have HE := hd hE
  clear hE
  go_wp2_with fail
  go_ret
  exact ⟨rfl, HE.out⟩
set_option maxRecDepth 100000 in
theorem outside_stm {w : World} {c : Nat} {u : CU} {vb vs : Value} {r1 pc cyc : Int} {over : Bool} (h : ChipAt w c u vb vs r1 pc cyc over) :
    Calls Try.prog 121 #[.pointer (some ⟨c, 0, none⟩), .agg #[.int .i64 (-1), .int .i64 3, .int .i64 1]] w fun e w' => e = .returned (.bool false) ∧ Ext [] w w' := by
  have q0 := h.at 0 (.int .i64 8) rfl
  have q2 := h.at 2 (.int .i64 256) rfl
  have ql := h.lt
  clear h
  go_enter Try.func121, Try.ntmps121
  go_wp2_with fail
  go_ret
  exact ⟨rfl, (Ext.refl _ _).alloc _⟩
set_option maxRecDepth 100000 in
theorem indexArea_stm {w : World} {c b : Nat} {u : CU} {vb vs : Value} {r1 pc cyc : Int} {over : Bool} (h : ChipAt w c u vb vs r1 pc cyc over) (hb : Blk w b 154 #[.int .i64 (-1), .int .i64 3, .int .i64 1]) :
    Calls Try.prog 130 #[.slice (some ⟨b, 0, none⟩) 1 1, .func (.func 121) #[.pointer (some ⟨c, 0, none⟩)] #[]] w fun e w' => e = .returned (.int .i64 (-1)) ∧ Ext [] w w' := by
  have HH := hd h
  have HB := hd hb
  clear h hb
  go_enter Try.func130, Try.ntmps130
  go_wp2_with fail
  go_loopw [8] (fun i wr => ∃ k : Nat, i = .int .i64 k ∧ k ≤ 1 ∧ Ext [] w wr) (fun i _ => (1 - intOf i).toNat)
  case atStart => exact ⟨0, rfl, by omega, Ext.refl _ _⟩
  case round =>
    obtain ⟨k, rfl, hk, hE⟩ := hrel
    have HE := hd hE
    have qb := (HB.out.ext hE (by simp)).cell
    have ql := (HB.out.ext hE (by simp)).lt
    clear hE
    rcases (show k = 0 ∨ k = 1 by omega) with rfl | rfl
    · go_wp2_with fail
      refine (outside_stm (HH.out.ext HE.out (by simp))).mono ?_
      rintro e w2 ⟨rfl, hE2⟩
      have HE2 := hd (HE.out.trans hE2)
      clear hE2 qb ql
      go_wp2_with fail
      go_round
      case rel => exact ⟨1, rfl, by omega, HE2.out⟩
      case measure => simp [intOf]
    · go_wp2_with fail
      go_ret
      exact ⟨rfl, HE.out⟩
set_option maxRecDepth 100000 in
theorem containsArea_stm {w : World} {c b : Nat} {u : CU} {vb vs : Value} {r1 pc cyc : Int} {over : Bool} (h : ChipAt w c u vb vs r1 pc cyc over) (hb : Blk w b 154 #[.int .i64 (-1), .int .i64 3, .int .i64 1]) :
    Calls Try.prog 120 #[.slice (some ⟨b, 0, none⟩) 1 1, .func (.func 121) #[.pointer (some ⟨c, 0, none⟩)] #[]] w fun e w' => e = .returned (.bool false) ∧ Ext [] w w' := by
  go_enter Try.func120, Try.ntmps120
  go_wp2_with fail
  refine (indexArea_stm h hb).mono ?_
  rintro e w' ⟨rfl, hE⟩
  have HE := hd hE
  clear hE
  go_wp2_with fail
  go_ret
  exact ⟨rfl, HE.out⟩
end Go.Proofs.Ytedabpldigcffaa
