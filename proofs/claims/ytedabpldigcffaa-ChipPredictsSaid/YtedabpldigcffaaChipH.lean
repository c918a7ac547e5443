/- The small machine's first steps: what an instruction touches. -/
import Derived.Test.YtedabpldigcffaaChipE
namespace Go.Proofs.Ytedabpldigcffaa
open Go.RowKit
set_option linter.unusedSimpArgs false
set_option linter.unusedVariables false

/-- A chip lies in block c. -/
def ChipAt (w : World) (c : Nat) (u : CU) (vb vs : Value) (r1 pc cyc : Int) (over : Bool) : Prop := Blk w c 117 (u.cells 2 8 vb vs r1 pc cyc over)
section
variable {w w' : World} {c : Nat} {u : CU} {vb vs : Value} {r1 pc cyc : Int} {over : Bool} {T : List Nat}
theorem ChipAt.ext (h : ChipAt w c u vb vs r1 pc cyc over) (hE : Ext T w w') (hc : c ∉ T) : ChipAt w' c u vb vs r1 pc cyc over := Blk.ext h hE hc
theorem ChipAt.lt (h : ChipAt w c u vb vs r1 pc cyc over) : c < w.heap.size := Blk.lt h
theorem ChipAt.at (h : ChipAt w c u vb vs r1 pc cyc over) (i : Nat) (v : Value) (hv : (u.cells 2 8 vb vs r1 pc cyc over)[i]? = some v) : w.cell? ⟨c, i, none⟩ = some v := (Blk.cell h i).trans hv
end
def x0 : Ins := ⟨1, 0, 1, 0, 0, 0, 0, 5, 0⟩
def x1 : Ins := ⟨6, 0, 0, 0, 1, 0, 0, 3, 0⟩

set_option maxHeartbeats 1000000 in
set_option maxRecDepth 100000 in
theorem touched_num {w : World} {c : Nat} {u : CU} {vb vs : Value} {r1 pc cyc : Int} {over : Bool} (h : ChipAt w c u vb vs r1 pc cyc over) :
    Calls Try.prog 119 #[.pointer (some ⟨c, 0, none⟩), .agg #[.int .i64 1, .int .i64 0, .int .i64 1, .int .i64 0, .int .i64 0, .int .i64 0, .int .i64 0, .int .i64 5, .int .i64 0]] w fun e w' => e = .returned (.tuple #[.slice none 0 0, .slice none 0 0]) ∧ Ext [] w w' := by
  have HH := hd h
  clear h
  have hb15 : bits BinOp.and IntKind.i64 0 15 = 0 := by decide +kernel
  go_enter Try.func119, Try.ntmps119
  go_wp2_with fail
  refine wp_region_rel 10 (JE _) (Ext []) (kinds []) (by kernel_rfl) (by kernel_rfl) JE.less ?_ JE.start ?_
  · repeat (first | exact Stays.nil | refine Stays.cons sFix.stays ?_)
  simp only [List.take_succ_cons, List.take_zero, List.drop_succ_cons, List.drop_zero]
  repeat
    refine relAt_det rfl rfl ?_
    apply Exists.intro
    refine ⟨fun wr nr hJ => ?_, ?_⟩
    · have hC := HH.out.ext (((Ext.refl [] w).alloc _).trans hJ) (by simp); have q10 := hC.at 10 (.int .i64 0) rfl; have ql := hC.lt; have qx := ((Blk.new w 64 #[.int .i64 1, .int .i64 0, .int .i64 1, .int .i64 0, .int .i64 0, .int .i64 0, .int .i64 0, .int .i64 5, .int .i64 0]).ext hJ (by simp)); have qxc := qx.cell; have qxl := qx.lt; clear qx hC
      clear hJ
      (go_simp; try go_bits)
      first | rfl | exact ⟨rfl, rfl⟩
    simp only [Act.put, List.setIfInBounds_toArray, List.set_cons_succ, List.set_cons_zero]
  refine relAt_nil (fun w1 hJ hF => ?_)
  have qx := ((Blk.new w 64 #[.int .i64 1, .int .i64 0, .int .i64 1, .int .i64 0, .int .i64 0, .int .i64 0, .int .i64 0, .int .i64 5, .int .i64 0]).ext hJ (by simp))
  have qxc := qx.cell
  have qxl := qx.lt
  have HE := hd (((Ext.refl [] w).alloc _).trans hJ)
  clear qx hF hJ
  go_wp2_with fail
  go_ret2
  exact ⟨rfl, HE.out⟩
set_option maxHeartbeats 1000000 in
set_option maxRecDepth 100000 in
theorem touched_stm {w : World} {c : Nat} {u : CU} {vb vs : Value} {r1 pc cyc : Int} {over : Bool} (h : ChipAt w c u vb vs r1 pc cyc over) :
    Calls Try.prog 119 #[.pointer (some ⟨c, 0, none⟩), .agg #[.int .i64 6, .int .i64 0, .int .i64 0, .int .i64 0, .int .i64 1, .int .i64 0, .int .i64 0, .int .i64 3, .int .i64 0]] w fun e w' => ∃ b : Nat, e = .returned (.tuple #[.slice none 0 0, .slice (some ⟨b, 0, none⟩) 1 1]) ∧ Ext [] w w' ∧ Blk w' b 154 #[.int .i64 (-1), .int .i64 3, .int .i64 1] := by
  have HH := hd h
  clear h
  have hb15 : bits BinOp.and IntKind.i64 0 15 = 0 := by decide +kernel
  go_enter Try.func119, Try.ntmps119
  go_wp2_with fail
  refine wp_region_rel 10 (JE _) (Ext []) (kinds []) (by kernel_rfl) (by kernel_rfl) JE.less ?_ JE.start ?_
  · repeat (first | exact Stays.nil | refine Stays.cons sFix.stays ?_)
  simp only [List.take_succ_cons, List.take_zero, List.drop_succ_cons, List.drop_zero]
  repeat
    refine relAt_det rfl rfl ?_
    apply Exists.intro
    refine ⟨fun wr nr hJ => ?_, ?_⟩
    · have hC := HH.out.ext (((Ext.refl [] w).alloc _).trans hJ) (by simp); have q10 := hC.at 10 (.int .i64 0) rfl; have ql := hC.lt; have qx := ((Blk.new w 64 #[.int .i64 6, .int .i64 0, .int .i64 0, .int .i64 0, .int .i64 1, .int .i64 0, .int .i64 0, .int .i64 3, .int .i64 0]).ext hJ (by simp)); have qxc := qx.cell; have qxl := qx.lt; clear qx hC
      clear hJ
      (go_simp; try go_bits)
      first | rfl | exact ⟨rfl, rfl⟩
    simp only [Act.put, List.setIfInBounds_toArray, List.set_cons_succ, List.set_cons_zero]
  refine relAt_nil (fun w1 hJ hF => ?_)
  have qx := ((Blk.new w 64 #[.int .i64 6, .int .i64 0, .int .i64 0, .int .i64 0, .int .i64 1, .int .i64 0, .int .i64 0, .int .i64 3, .int .i64 0]).ext hJ (by simp))
  have qxc := qx.cell
  have qxl := qx.lt
  have HE := hd (((Ext.refl [] w).alloc _).trans hJ)
  clear qx hF hJ
  go_wp2_with fail
  go_ret2
  exact ⟨_, rfl, HE.out.alloc _, Blk.new _ _ _⟩
set_option maxRecDepth 100000 in
theorem indexArea_nil (fv : Value) (w : World) : Calls Try.prog 130 #[.slice none 0 0, fv] w fun e w' => e = .returned (.int .i64 (-1)) ∧ Ext [] w w' := by
  go_enter Try.func130, Try.ntmps130
  go_wp2_with fail
  go_loopw [8] (fun i wr => i = .int .i64 0 ∧ Ext [] w wr) (fun _ _ => 0)
  case atStart => exact ⟨rfl, Ext.refl _ _⟩
  case round =>
    obtain ⟨rfl, hE⟩ := hrel
    have HE := hd hE
    clear hE
    go_wp2_with fail
    go_ret
    exact ⟨rfl, HE.out⟩
set_option maxRecDepth 100000 in
theorem containsArea_nil (fv : Value) (w : World) : Calls Try.prog 120 #[.slice none 0 0, fv] w fun e w' => e = .returned (.bool false) ∧ Ext [] w w' := by
  go_enter Try.func120, Try.ntmps120
  go_wp2_with fail
  refine (indexArea_nil fv w).mono ?_
  rintro e w' ⟨rfl, hE⟩
  have HE := hd hE
  clear hE
  go_wp2_with fail
  go_ret
  exact ⟨rfl, HE.out⟩
set_option maxRecDepth 100000 in
theorem outside_stm {w : World} {c : Nat} {u : CU} {vb vs : Value} {r1 pc cyc : Int} {over : Bool} (h : ChipAt w c u vb vs r1 pc cyc over) :
    Calls Try.prog 121 #[.pointer (some ⟨c, 0, none⟩), .agg #[.int .i64 (-1), .int .i64 3, .int .i64 1]] w fun e w' => e = .returned (.bool false) ∧ Ext [] w w' := by
  have q0 := h.at 0 (.int .i64 8) rfl
  have q2 := h.at 2 (.int .i64 256) rfl
  have ql := h.lt
  clear h
  go_enter Try.func121, Try.ntmps121
  go_wp2_with fail
  go_ret
  exact ⟨rfl, (Ext.refl _ _).alloc _⟩
set_option maxRecDepth 100000 in
theorem indexArea_stm {w : World} {c b : Nat} {u : CU} {vb vs : Value} {r1 pc cyc : Int} {over : Bool} (h : ChipAt w c u vb vs r1 pc cyc over) (hb : Blk w b 154 #[.int .i64 (-1), .int .i64 3, .int .i64 1]) :
    Calls Try.prog 130 #[.slice (some ⟨b, 0, none⟩) 1 1, .func (.func 121) #[.pointer (some ⟨c, 0, none⟩)] #[]] w fun e w' => e = .returned (.int .i64 (-1)) ∧ Ext [] w w' := by
  have HH := hd h
  have HB := hd hb
  clear h hb
  go_enter Try.func130, Try.ntmps130
  go_wp2_with fail
  go_loopw [8] (fun i wr => ∃ k : Nat, i = .int .i64 k ∧ k ≤ 1 ∧ Ext [] w wr) (fun i _ => (1 - intOf i).toNat)
  case atStart => exact ⟨0, rfl, by omega, Ext.refl _ _⟩
  case round =>
    obtain ⟨k, rfl, hk, hE⟩ := hrel
    have HE := hd hE
    have qb := (HB.out.ext hE (by simp)).cell
    have ql := (HB.out.ext hE (by simp)).lt
    clear hE
    rcases (show k = 0 ∨ k = 1 by omega) with rfl | rfl
    · go_wp2_with fail
      refine (outside_stm (HH.out.ext HE.out (by simp))).mono ?_
      rintro e w2 ⟨rfl, hE2⟩
      have HE2 := hd (HE.out.trans hE2)
      clear hE2 qb ql
      go_wp2_with fail
      go_round
      case rel => exact ⟨1, rfl, by omega, HE2.out⟩
      case measure => simp [intOf]
    · go_wp2_with fail
      go_ret
      exact ⟨rfl, HE.out⟩
set_option maxRecDepth 100000 in
theorem containsArea_stm {w : World} {c b : Nat} {u : CU} {vb vs : Value} {r1 pc cyc : Int} {over : Bool} (h : ChipAt w c u vb vs r1 pc cyc over) (hb : Blk w b 154 #[.int .i64 (-1), .int .i64 3, .int .i64 1]) :
    Calls Try.prog 120 #[.slice (some ⟨b, 0, none⟩) 1 1, .func (.func 121) #[.pointer (some ⟨c, 0, none⟩)] #[]] w fun e w' => e = .returned (.bool false) ∧ Ext [] w w' := by
  go_enter Try.func120, Try.ntmps120
  go_wp2_with fail
  refine (indexArea_stm h hb).mono ?_
  rintro e w' ⟨rfl, hE⟩
  have HE := hd hE
  clear hE
  go_wp2_with fail
  go_ret
  exact ⟨rfl, HE.out⟩
end Go.Proofs.Ytedabpldigcffaa
namespace Go.Proofs.Ytedabpldigcffaa
open Go.RowKit
set_option linter.unusedSimpArgs false
set_option linter.unusedVariables false

/-- The chip and its queue, of which nothing is on its way. -/
structure Idle (w : World) (c : Nat) (u : CU) (vb vs : Value) (r1 pc cyc : Int) (over : Bool) : Prop where
  chip : ChipAt w c u vb vs r1 pc cyc over
  queue : Blk w u.b4 157 #[.pointer none]
  apart : u.b4 ≠ c
theorem Idle.ext {T : List Nat} {w w' : World} {c : Nat} {u : CU} {vb vs : Value} {r1 pc cyc : Int} {over : Bool} (h : Idle w c u vb vs r1 pc cyc over) (hE : Ext T w w') (hc : c ∉ T) (hq : u.b4 ∉ T) : Idle w' c u vb vs r1 pc cyc over :=
  ⟨h.chip.ext hE hc, h.queue.ext hE hq, h.apart⟩

set_option maxHeartbeats 1000000 in
set_option maxRecDepth 100000 in
theorem hazard_num {w : World} {c : Nat} {u : CU} {vb vs : Value} {r1 pc cyc : Int} {over : Bool} (h : Idle w c u vb vs r1 pc cyc over) :
    Calls Try.prog 106 #[.pointer (some ⟨c, 0, none⟩), .agg #[.int .i64 1, .int .i64 0, .int .i64 1, .int .i64 0, .int .i64 0, .int .i64 0, .int .i64 0, .int .i64 5, .int .i64 0]] w fun e w' => e = .returned (.int .i64 0) ∧ Ext [] w w' := by
  have HH := hd h
  clear h
  have hmf : ∀ (fn : Fn) (first cap : Array Value) (w : World), (Instr.makeFunc fn first cap).run Try.prog w = .ok (.func fn first cap) w := fun _ _ _ _ => rfl
  go_enter Try.func106, Try.ntmps106
  go_wp2_with fail
  refine (touched_num (HH.out.chip.ext ((Ext.refl [] w).alloc _) (by simp))).mono ?_
  rintro e w1 ⟨rfl, hE1⟩
  have HE1 := hd (((Ext.refl [] w).alloc _).trans hE1)
  clear hE1
  go_wp2_with fail
  refine (containsArea_nil _ _).mono ?_
  rintro e w2 ⟨rfl, hE2⟩
  have HE2 := hd (HE1.out.trans hE2)
  clear hE2
  go_wp2_with fail
  refine (containsArea_nil _ _).mono ?_
  rintro e w3 ⟨rfl, hE3⟩
  have HE3 := hd (HE2.out.trans hE3)
  have hI := HH.out.ext HE3.out (by simp) (by simp)
  have q162 := hI.chip.at 162 (.slice (some ⟨u.b4, 0, none⟩) 1 1) rfl
  have ql := hI.chip.lt
  clear hE3 hI
  go_wp2_with fail
  clear q162 ql
  go_loopw [33] (fun i wr => ∃ k : Nat, i = .int .i64 k ∧ k ≤ 1 ∧ wr = w3) (fun i _ => (1 - intOf i).toNat)
  case atStart => exact ⟨0, rfl, by omega, rfl⟩
  case round =>
    obtain ⟨k, rfl, hk, rfl⟩ := hrel
    have hQ := HH.out.queue.ext HE3.out (by simp)
    have qq := hQ.cell
    have ql := hQ.lt
    clear hQ
    rcases (show k = 0 ∨ k = 1 by omega) with rfl | rfl
    · go_wp2_with fail
      go_round
      case rel => exact ⟨1, rfl, by omega, by first | rfl | trivial⟩
      case measure => simp [intOf]
    · go_wp2_with fail
      go_loopw [68] (fun i wx => i = .int .i64 0 ∧ wx = wr) (fun _ _ => 0)
      case atStart => exact ⟨rfl, rfl⟩
      case round =>
        obtain ⟨rfl, rfl⟩ := hrel
        go_wp2_with fail
        go_ret
        exact ⟨rfl, HE3.out⟩
set_option maxHeartbeats 1000000 in
set_option maxRecDepth 100000 in
theorem hazard_stm {w : World} {c : Nat} {u : CU} {vb vs : Value} {r1 pc cyc : Int} {over : Bool} (h : Idle w c u vb vs r1 pc cyc over) :
    Calls Try.prog 106 #[.pointer (some ⟨c, 0, none⟩), .agg #[.int .i64 6, .int .i64 0, .int .i64 0, .int .i64 0, .int .i64 1, .int .i64 0, .int .i64 0, .int .i64 3, .int .i64 0]] w fun e w' => e = .returned (.int .i64 0) ∧ Ext [] w w' := by
  have HH := hd h
  clear h
  have hmf : ∀ (fn : Fn) (first cap : Array Value) (w : World), (Instr.makeFunc fn first cap).run Try.prog w = .ok (.func fn first cap) w := fun _ _ _ _ => rfl
  go_enter Try.func106, Try.ntmps106
  go_wp2_with fail
  refine (touched_stm (HH.out.chip.ext ((Ext.refl [] w).alloc _) (by simp))).mono ?_
  rintro e w1 ⟨b, rfl, hE1, hB1⟩
  have HB1 := hd hB1
  have HE1 := hd (((Ext.refl [] w).alloc _).trans hE1)
  clear hE1 hB1
  go_wp2_with fail
  refine (containsArea_nil _ _).mono ?_
  rintro e w2 ⟨rfl, hE2⟩
  have HB2 := hd (HB1.out.ext hE2 (by simp))
  have HE2 := hd (HE1.out.trans hE2)
  clear hE2
  go_wp2_with fail
  refine (containsArea_stm (HH.out.chip.ext HE2.out (by simp)) HB2.out).mono ?_
  rintro e w3 ⟨rfl, hE3⟩
  have HE3 := hd (HE2.out.trans hE3)
  have hI := HH.out.ext HE3.out (by simp) (by simp)
  have q162 := hI.chip.at 162 (.slice (some ⟨u.b4, 0, none⟩) 1 1) rfl
  have ql := hI.chip.lt
  clear hE3 hI
  go_wp2_with fail
  clear q162 ql
  go_loopw [33] (fun i wr => ∃ k : Nat, i = .int .i64 k ∧ k ≤ 1 ∧ wr = w3) (fun i _ => (1 - intOf i).toNat)
  case atStart => exact ⟨0, rfl, by omega, rfl⟩
  case round =>
    obtain ⟨k, rfl, hk, rfl⟩ := hrel
    have hQ := HH.out.queue.ext HE3.out (by simp)
    have qq := hQ.cell
    have ql := hQ.lt
    clear hQ
    rcases (show k = 0 ∨ k = 1 by omega) with rfl | rfl
    · go_wp2_with fail
      go_round
      case rel => exact ⟨1, rfl, by omega, by first | rfl | trivial⟩
      case measure => simp [intOf]
    · go_wp2_with fail
      go_loopw [68] (fun i wx => i = .int .i64 0 ∧ wx = wr) (fun _ _ => 0)
      case atStart => exact ⟨rfl, rfl⟩
      case round =>
        obtain ⟨rfl, rfl⟩ := hrel
        go_wp2_with fail
        go_ret
        exact ⟨rfl, HE3.out⟩
theorem price_num (w : World) : Calls Try.prog 102 #[.agg #[.int .i64 8, .int .i64 2, .int .i64 256, .int .i64 2, .int .i64 1], .agg #[.int .i64 1, .int .i64 0, .int .i64 1, .int .i64 0, .int .i64 0, .int .i64 0, .int .i64 0, .int .i64 5, .int .i64 0]] w fun e w' => e = .returned (.int .i64 1) ∧ Ext [] w w' := by
  go_enter Try.func102, Try.ntmps102
  go_wp2_with fail
  go_ret
  exact ⟨rfl, ((Ext.refl _ _).alloc _).alloc _⟩
theorem price_stm (w : World) : Calls Try.prog 102 #[.agg #[.int .i64 8, .int .i64 2, .int .i64 256, .int .i64 2, .int .i64 1], .agg #[.int .i64 6, .int .i64 0, .int .i64 0, .int .i64 0, .int .i64 1, .int .i64 0, .int .i64 0, .int .i64 3, .int .i64 0]] w fun e w' => e = .returned (.int .i64 20) ∧ Ext [] w w' := by
  go_enter Try.func102, Try.ntmps102
  go_wp2_with fail
  go_ret
  exact ⟨rfl, ((Ext.refl _ _).alloc _).alloc _⟩
set_option maxRecDepth 100000 in
/-- A queue of which nothing is on its way. -/
theorem wait_idle {w : World} {c : Nat} {u : CU} {vb vs : Value} {r1 pc cyc : Int} {over : Bool} (h : Idle w c u vb vs r1 pc cyc over) :
    Calls Try.prog 105 #[.pointer (some ⟨c, 0, none⟩), .int .i64 0] w fun e w' => e = .returned (.tuple #[]) ∧ w' = w := by
  have q162 := h.chip.at 162 (.slice (some ⟨u.b4, 0, none⟩) 1 1) rfl
  have ql := h.chip.lt
  have qq := h.queue.cell
  have ql2 := h.queue.lt
  clear h
  go_enter Try.func105, Try.ntmps105
  go_wp2_with fail
  exact bodyPost_ret (results_none rfl _ _ _) rfl ⟨rfl, rfl⟩
end Go.Proofs.Ytedabpldigcffaa
namespace Go.Proofs.Ytedabpldigcffaa
open Go.RowKit
set_option linter.unusedSimpArgs false
set_option linter.unusedVariables false

set_option maxHeartbeats 1000000 in
set_option maxRecDepth 100000 in
theorem memory_stm {w : World} {c : Nat} {u : CU} {vb vs : Value} {r1 pc cyc : Int} {over : Bool} (h : ChipAt w c u vb vs r1 pc cyc over) (hc3 : 8 ≤ u.c3) :
    Calls Try.prog 125 #[.pointer (some ⟨c, 0, none⟩), .agg #[.int .i64 (-1), .int .i64 3, .int .i64 1]] w fun e w' => e = .returned (.slice (some ⟨u.g3, 3, none⟩) 1 (u.c3 - 3)) ∧ Ext [] w w' := by
  have HH := hd h
  clear h
  go_enter Try.func125, Try.ntmps125
  go_wp2_with fail
  refine wp_region_rel 11 (JE _) (Ext []) (kinds []) (by kernel_rfl) (by kernel_rfl) JE.less ?_ JE.start ?_
  · repeat (first | exact Stays.nil | refine Stays.cons sFix.stays ?_)
  simp only [List.take_succ_cons, List.take_zero, List.drop_succ_cons, List.drop_zero]
  repeat
    refine relAt_det rfl rfl ?_
    apply Exists.intro
    refine ⟨fun wr nr hJ => ?_, ?_⟩
    · have hC := HH.out.ext (((Ext.refl [] w).alloc _).trans hJ) (by simp); have q7 := hC.at 7 (.slice (some ⟨u.g3, 0, none⟩) 8 u.c3) rfl; have ql := hC.lt; have qx := ((Blk.new w 154 #[.int .i64 (-1), .int .i64 3, .int .i64 1]).ext hJ (by simp)); have qxc := qx.cell; have qxl := qx.lt; clear qx hC
      clear hJ
      (go_simp; try go_bits)
      first | rfl | exact ⟨rfl, rfl⟩
    simp only [Act.put, List.setIfInBounds_toArray, List.set_cons_succ, List.set_cons_zero]
  refine relAt_nil (fun w1 hJ hF => ?_)
  have HE := hd (((Ext.refl [] w).alloc _).trans hJ)
  clear hF hJ
  go_wp2_with fail
  go_ret
  exact ⟨rfl, HE.out⟩

set_option maxHeartbeats 1000000 in
set_option maxRecDepth 100000 in
theorem effect_num {w : World} {c : Nat} {u : CU} {vb vs : Value} {r1 pc cyc : Int} {over : Bool} (h : ChipAt w c u vb vs r1 pc cyc over) :
    Calls Try.prog 107 #[.pointer (some ⟨c, 0, none⟩), .agg #[.int .i64 1, .int .i64 0, .int .i64 1, .int .i64 0, .int .i64 0, .int .i64 0, .int .i64 0, .int .i64 5, .int .i64 0]] w fun e w' => e = .returned (.tuple #[]) ∧ Ext [c] w w' ∧ ChipAt w' c u vb vs 5 pc cyc over := by
  have HH := hd h
  clear h
  go_enter Try.func107, Try.ntmps107
  go_wp2_with fail
  refine (touched_num (HH.out.ext ((Ext.refl [] w).alloc _) (by simp))).mono ?_
  rintro e w1 ⟨rfl, hE1⟩
  have HE1 := hd (((Ext.refl [] w).alloc _).trans hE1)
  have HX := hd ((Blk.new w 64 #[.int .i64 1, .int .i64 0, .int .i64 1, .int .i64 0, .int .i64 0, .int .i64 0, .int .i64 0, .int .i64 5, .int .i64 0]).ext hE1 (by simp))
  have HC1 := hd (HH.out.ext HE1.out (by simp))
  have q3 := HC1.out.at 3 (.int .i64 2) rfl
  have ql := HC1.out.lt
  have qxc := HX.out.cell
  have qxl := HX.out.lt
  clear hE1
  go_wp2_with fail
  clear q3 ql qxc qxl
  refine wp_region_rel 7 (JE _) (Ext []) (kinds []) (by kernel_rfl) (by kernel_rfl) JE.less ?_ JE.start ?_
  · repeat (first | exact Stays.nil | refine Stays.cons sFix.stays ?_)
  simp only [List.take_succ_cons, List.take_zero, List.drop_succ_cons, List.drop_zero]
  repeat
    refine relAt_det rfl rfl ?_
    apply Exists.intro
    refine ⟨fun wr nr hJ => ?_, ?_⟩
    · have hC := HC1.out.ext hJ (by simp); have ql := hC.lt; have qx := HX.out.ext hJ (by simp); have qxc := qx.cell; have qxl := qx.lt; clear qx hC
      clear hJ
      (go_simp; try go_bits)
      first | rfl | exact ⟨rfl, rfl⟩
    simp only [Act.put, List.setIfInBounds_toArray, List.set_cons_succ, List.set_cons_zero]
  refine relAt_nil (fun w2 hJ hF => ?_)
  have HC2 := hd (HC1.out.ext hJ (by simp))
  have HE2 := hd (HE1.out.trans hJ)
  have q11 := HC2.out.at 11 (.int .i64 r1) rfl
  have qf := Blk.frozen HC2.out
  have ql := HC2.out.lt
  clear hF hJ
  go_wp2_with fail
  go_end0
  exact ⟨rfl, (HE2.out.nil).setCell (.inl (by simp)) _, Blk.set_' HC2.out 11 _ _ rfl⟩

set_option maxHeartbeats 1000000 in
set_option maxRecDepth 100000 in
theorem put_stm {w : World} {c b : Nat} {u : CU} {vb vs : Value} {r1 pc cyc v m3 : Int} {over : Bool} (h : ChipAt w c u vb vs r1 pc cyc over) (hc3 : 8 ≤ u.c3)
    (hb : Blk w b 3 #[.int .i64 v]) (h3 : w.cell? ⟨u.g3, 3, none⟩ = some (.int .i64 m3)) (hf : w.frozen? ⟨u.g3, 3, none⟩ = false) :
    Calls Try.prog 126 #[.pointer (some ⟨c, 0, none⟩), .agg #[.int .i64 (-1), .int .i64 3, .int .i64 1], .slice (some ⟨b, 0, none⟩) 1 1] w fun e w' => e = .returned (.tuple #[]) ∧ Ext [u.g3] w w' ∧ w'.cell? ⟨u.g3, 3, none⟩ = some (.int .i64 v) := by
  have HH := hd h
  have hgl := World.block_lt_of_cell? w _ h3
  simp only at hgl
  have HB := hd hb
  have H3 := hd h3
  have HF := hd hf
  clear h hb h3 hf
  go_enter Try.func126, Try.ntmps126
  go_wp2_with fail
  refine (memory_stm (HH.out.ext ((Ext.refl [] w).alloc _) (by simp)) hc3).mono ?_
  rintro e w1 ⟨rfl, hE1⟩
  have HE1 := hd (((Ext.refl [] w).alloc _).trans hE1)
  have HB1 := hd (HB.out.ext HE1.out (by simp))
  have hg3 := HE1.out.held H3.out (by simp)
  have hgf := (HE1.out.frozen (p := ⟨u.g3, 3, none⟩) hgl (by simp)).trans HF.out
  have hgl1 : u.g3 < w1.heap.size := Nat.lt_of_lt_of_le hgl HE1.out.size
  have hcp : ∀ ty, (Builtin.copy_ #[22, 22] ty #[.slice (some ⟨u.g3, 3, none⟩) 1 (u.c3 - 3), .slice (some ⟨b, 0, none⟩) 1 1]).run Try.prog w1 = .ok (goInt 1) (w1.setCell ⟨u.g3, 3, none⟩ (.int .i64 v)) := fun ty =>
    run_copy_cells (P := Try.prog) w1 _ _ ty 3 u.g3 3 1 (u.c3 - 3) ⟨b, 0, none⟩ 1 1 [.int .i64 v] Try.underlying22 (by kernel_rfl) rfl
      (fun j x hx => by match j, hx with | 0, hx => cases hx; exact (HB1.out.cell 0))
      (fun j hj => by have h0 : j = 0 := by simp at hj; omega
                      subst h0; rw [Nat.add_zero, hg3]; rfl)
      (fun j hj => by have h0 : j = 0 := by simp at hj; omega
                      subst h0; exact hgf)
      (fun x hx => by rw [List.mem_singleton.1 hx]; rfl)
  have HX := hd ((Blk.new w 154 #[.int .i64 (-1), .int .i64 3, .int .i64 1]).ext hE1 (by simp))
  have qxc := HX.out.cell
  have qxl := HX.out.lt
  have hne : w.heap.size ≠ u.g3 := by omega
  clear hE1
  go_wp2_with fail
  go_end0
  refine ⟨rfl, (HE1.out.nil).setCell (.inl (by simp)) _, ?_⟩
  exact World.cell?_setCell_same' _ _ _ (by rw [hg3]; rfl)

/-- A new block of one int. -/
def sInt1 (v : Int) : Spec := ⟨Nat, 0, fun b => .slice (some ⟨b, 0, none⟩) 1 1, fun b w => Blk w b 3 #[.int .i64 v]⟩
theorem sInt1.stays {v : Int} : ∀ y w w', RH [] w w' → (sInt1 v).V y w → (sInt1 v).V y w' := fun _ _ _ hR h => Blk.ext h hR.1 List.not_mem_nil

set_option maxHeartbeats 1000000 in
set_option maxRecDepth 100000 in
theorem effect_stm {w : World} {c : Nat} {u : CU} {vb vs : Value} {v pc cyc m3 : Int} {over : Bool} (h : ChipAt w c u vb vs v pc cyc over) (hc3 : 8 ≤ u.c3)
    (h3 : w.cell? ⟨u.g3, 3, none⟩ = some (.int .i64 m3)) (hf : w.frozen? ⟨u.g3, 3, none⟩ = false) :
    Calls Try.prog 107 #[.pointer (some ⟨c, 0, none⟩), .agg #[.int .i64 6, .int .i64 0, .int .i64 0, .int .i64 0, .int .i64 1, .int .i64 0, .int .i64 0, .int .i64 3, .int .i64 0]] w fun e w' => e = .returned (.tuple #[]) ∧ Ext [u.g3] w w' ∧ w'.cell? ⟨u.g3, 3, none⟩ = some (.int .i64 v) := by
  have HH := hd h
  have hgl := World.block_lt_of_cell? w _ h3
  simp only at hgl
  have H3 := hd h3
  have HF := hd hf
  clear h h3 hf
  go_enter Try.func107, Try.ntmps107
  go_wp2_with fail
  refine (touched_stm (HH.out.ext ((Ext.refl [] w).alloc _) (by simp))).mono ?_
  rintro e w1 ⟨bw, rfl, hE1, hBw⟩
  have HBW := hd hBw
  have HE1 := hd (((Ext.refl [] w).alloc _).trans hE1)
  have HX := hd ((Blk.new w 64 #[.int .i64 6, .int .i64 0, .int .i64 0, .int .i64 0, .int .i64 1, .int .i64 0, .int .i64 0, .int .i64 3, .int .i64 0]).ext hE1 (by simp))
  have HC1 := hd (HH.out.ext HE1.out (by simp))
  have q3 := HC1.out.at 3 (.int .i64 2) rfl
  have ql := HC1.out.lt
  have qxc := HX.out.cell
  have qxl := HX.out.lt
  clear hE1 hBw
  go_wp2_with fail
  clear q3 ql qxc qxl
  refine wp_region_rel 12 (JH [] _) (RH []) (kinds [(11, sInt1 v)]) (by kernel_rfl) (by kernel_rfl) JH.less ?_ JH.start ?_
  · exact Stays.cons sInt1.stays Stays.nil
  simp only [List.take_succ_cons, List.take_zero, List.drop_succ_cons, List.drop_zero]
  repeat
    refine relAt_det rfl rfl ?_
    apply Exists.intro
    refine ⟨fun wr nr hJ => ?_, ?_⟩
    · have hC := HC1.out.ext hJ.1 (by simp); have q11 := hC.at 11 (.int .i64 v) rfl; have ql := hC.lt; have qx := HX.out.ext hJ.1 (by simp); have qxc := qx.cell; have qxl := qx.lt; have qb := HBW.out.ext hJ.1 (by simp); have qbc := qb.cell; have qbl := qb.lt; clear qx hC qb
      clear hJ
      (go_simp; try go_bits)
      first | rfl | exact ⟨rfl, rfl⟩
    simp only [Act.put, List.setIfInBounds_toArray, List.set_cons_succ, List.set_cons_zero]
  refine rel_new (sInt1 v) rfl rfl ?_ ?_
  · intro wr nr hJ hf
    refine ⟨wr.heap.size, .cells #[.int .i64 v] 3, ?_, Blk.new _ _ _⟩
    go_simp
    rfl
  intro (b11 : Nat)
  simp only [Act.put, List.setIfInBounds_toArray, List.set_cons_succ, List.set_cons_zero]
  dsimp only [sInt1]
  refine relAt_nil (fun w2 hJ hF => ?_)
  have H11 : Blk w2 b11 3 #[.int .i64 v] := hF 11
  have HE2 := hd (HE1.out.trans hJ.1)
  have HB11 := hd H11
  clear hF hJ H11
  go_wp2_with fail
  refine (put_stm (HH.out.ext HE2.out (by simp)) hc3 HB11.out (HE2.out.held H3.out (by simp)) ((HE2.out.frozen (p := ⟨u.g3, 3, none⟩) hgl (by simp)).trans HF.out)).mono ?_
  rintro e w3 ⟨rfl, hE3, hc⟩
  have HE3 := hd ((HE2.out.nil).trans hE3)
  have HCC := hd hc
  clear hE3 hc
  go_wp2_with fail
  go_end0
  exact ⟨rfl, HE3.out, HCC.out⟩

set_option maxHeartbeats 1000000 in
set_option maxRecDepth 100000 in
/-- The next instruction. -/
theorem next_1 {w : World} {c : Nat} {u : CU} {vb vs : Value} {r1 cyc : Int} (h : ChipAt w c u vb vs r1 0 cyc false) :
    Calls Try.prog 109 #[.pointer (some ⟨c, 0, none⟩), .int .i64 1] w fun e w' => e = .returned (.tuple #[]) ∧ Ext [c] w w' ∧ ChipAt w' c u vb vs r1 1 cyc false := by
  have HH := hd h
  have q164 := h.at 164 (.int .i64 0) rfl
  have q5 := h.at 5 (.slice (some ⟨u.g1, 0, none⟩) 2 u.c1) rfl
  have qf := Blk.frozen h
  have ql := h.lt
  clear h
  go_enter Try.func109, Try.ntmps109
  go_wp2_with fail
  exact bodyPost_ret (results_none rfl _ _ _) rfl ⟨rfl, (Ext.refl _ _).setCell (.inl (by simp)) _, Blk.set_' HH.out 164 _ _ rfl⟩
set_option maxHeartbeats 1000000 in
set_option maxRecDepth 100000 in
/-- The end. -/
theorem next_2 {w : World} {c : Nat} {u : CU} {vb vs : Value} {r1 cyc : Int} (h : Idle w c u vb vs r1 1 cyc false) :
    Calls Try.prog 109 #[.pointer (some ⟨c, 0, none⟩), .int .i64 2] w fun e w' => e = .returned (.tuple #[]) ∧ Ext [c] w w' ∧ ChipAt w' c u vb vs r1 2 cyc true := by
  have HH := hd h
  have q164 := h.chip.at 164 (.int .i64 1) rfl
  have q5 := h.chip.at 5 (.slice (some ⟨u.g1, 0, none⟩) 2 u.c1) rfl
  have q162 := h.chip.at 162 (.slice (some ⟨u.b4, 0, none⟩) 1 1) rfl
  have qf := Blk.frozen h.chip
  have ql := h.chip.lt
  have hap := h.apart
  have hE0 : Ext [c] w (w.setCell ⟨c, 164, none⟩ (.int .i64 2)) := (Ext.refl _ _).setCell (.inl (by simp)) _
  have HI : Hd (Idle (w.setCell ⟨c, 164, none⟩ (.int .i64 2)) c u vb vs r1 2 cyc false) := hd ⟨Blk.set_' h.chip 164 _ _ rfl, h.queue.ext hE0 (by simpa using hap), hap⟩
  have HE0 := hd hE0
  clear h hE0
  go_enter Try.func109, Try.ntmps109
  go_wp2_with fail
  clear q164 q5 q162 qf ql
  go_loopw [21] (fun i wr => ∃ k : Nat, i = .int .i64 k ∧ k ≤ 1 ∧ wr = w.setCell ⟨c, 164, none⟩ (.int .i64 2)) (fun i _ => (1 - intOf i).toNat)
  case atStart => exact ⟨0, rfl, by omega, rfl⟩
  case round =>
    obtain ⟨k, rfl, hk, hw⟩ := hrel
    have HI2 : Hd (Idle wr c u vb vs r1 2 cyc false) := hd (hw ▸ HI.out)
    have HE2 : Hd (Ext [c] w wr) := hd (hw ▸ HE0.out)
    have HW := hd hw
    clear hw
    rcases (show k = 0 ∨ k = 1 by omega) with rfl | rfl
    · go_wp2_with fail
      refine (wait_idle HI2.out).mono ?_
      rintro e w2 ⟨rfl, rfl⟩
      go_wp2_with fail
      go_round
      case rel => exact ⟨1, rfl, by omega, HW.out⟩
      case measure => simp [intOf]
    · have q168 := HI2.out.chip.at 168 (.bool false) rfl
      have qf := Blk.frozen HI2.out.chip
      have ql := HI2.out.chip.lt
      go_wp2_with fail
      go_end0
      exact ⟨rfl, HE2.out.setCell (.inl (by simp)) _, Blk.set_' HI2.out.chip 168 _ _ rfl⟩
end Go.Proofs.Ytedabpldigcffaa
