/- The specification's fields of an instruction (fieldsOf). -/
import Derived.Test.YtedabpldigcffaaRefA
namespace Go.Proofs.Ytedabpldigcffaa
open Go.RowKit
set_option linter.unusedSimpArgs false
set_option linter.unusedVariables false

def Small (x : Int) : Prop := 0 ≤ x ∧ x ≤ 1000
section
variable {w wr : World} {c0 c1 c2 c3 c4 : Array Value} {t0 t1 t2 t3 t4 : TypeId}
theorem fiveExt : Ext [] w (((((w.alloc (.cells c0 t0)).alloc (.cells c1 t1)).alloc (.cells c2 t2)).alloc (.cells c3 t3)).alloc (.cells c4 t4)) :=
  (((((Ext.refl _ _).alloc _).alloc _).alloc _).alloc _).alloc _
theorem fiveBlks {n : Nat} (h : JE (((((w.alloc (.cells c0 t0)).alloc (.cells c1 t1)).alloc (.cells c2 t2)).alloc (.cells c3 t3)).alloc (.cells c4 t4)) n wr) :
    (∀ i, wr.cell? ⟨w.heap.size, i, none⟩ = c0[i]?) ∧ (∀ i, wr.cell? ⟨w.heap.size + 1, i, none⟩ = c1[i]?) ∧ (∀ i, wr.cell? ⟨w.heap.size + 1 + 1, i, none⟩ = c2[i]?) ∧ (∀ i, wr.cell? ⟨w.heap.size + 1 + 1 + 1, i, none⟩ = c3[i]?) ∧
      (∀ i, wr.cell? ⟨w.heap.size + 1 + 1 + 1 + 1, i, none⟩ = c4[i]?) := by
  have h' : Ext [] _ wr := h
  have b0 := ((((Blk.new w t0 c0).alloc (.cells c1 t1)).alloc (.cells c2 t2)).alloc (.cells c3 t3)).alloc (.cells c4 t4)
  have b1 := (((Blk.new' (w.alloc (.cells c0 t0)) t1 c1 (w.heap.size + 1) (by simp)).alloc (.cells c2 t2)).alloc (.cells c3 t3)).alloc (.cells c4 t4)
  have b2 := ((Blk.new' ((w.alloc (.cells c0 t0)).alloc (.cells c1 t1)) t2 c2 (w.heap.size + 1 + 1) (by simp)).alloc (.cells c3 t3)).alloc (.cells c4 t4)
  have b3 := (Blk.new' (((w.alloc (.cells c0 t0)).alloc (.cells c1 t1)).alloc (.cells c2 t2)) t3 c3 (w.heap.size + 1 + 1 + 1) (by simp)).alloc (.cells c4 t4)
  have b4 := Blk.new' ((((w.alloc (.cells c0 t0)).alloc (.cells c1 t1)).alloc (.cells c2 t2)).alloc (.cells c3 t3)) t4 c4 (w.heap.size + 1 + 1 + 1 + 1) (by simp)
  exact ⟨(b0.ext h' (by simp)).cell, (b1.ext h' (by simp)).cell, (b2.ext h' (by simp)).cell, (b3.ext h' (by simp)).cell, (b4.ext h' (by simp)).cell⟩
end

set_option maxHeartbeats 4000000 in
set_option maxRecDepth 100000 in
theorem fieldsOf_1 (m0 m1 m2 m3 m4 k d a b c p n m : Int) (w : World) (hb : Small m1) (hq : Small m4) (hl : Small m3) :
    Calls Try.prog 93 #[.agg #[.int .i64 m0, .int .i64 m1, .int .i64 m2, .int .i64 m3, .int .i64 m4], .agg (Ins.cells ⟨1, k, d, a, b, c, p, n, m⟩).toArray] w (FieldsPost [fldR 68, ⟨78, ⟨#[]⟩, -2147483648, 2147483647⟩] w) := by
  obtain ⟨hb0, hb1⟩ := hb
  obtain ⟨hq0, hq1⟩ := hq
  obtain ⟨hl0, hl1⟩ := hl
  simp only [Ins.cells]
  go_enter Try.func93, Try.ntmps93
  go_wp2_with fail
  refine wp_region_rel 3 (JE _) (Ext []) (kinds [(1, sFix (.agg #[.int .u8 68, .string ⟨#[114]⟩, .int .i64 0, .int .i64 15]))]) (by kernel_rfl) (by kernel_rfl) JE.less ?_ JE.start ?_
  · repeat (first | exact Stays.nil | refine Stays.cons sFix.stays ?_)
  simp only [List.take_succ_cons, List.take_zero, List.drop_succ_cons, List.drop_zero]
  repeat
    refine relAt_det rfl rfl ?_
    apply Exists.intro
    refine ⟨fun wr nr hJ => ?_, ?_⟩
    · obtain ⟨q0, q1, q2, q3, q4⟩ := fiveBlks hJ
      clear hJ
      (go_simp; try go_bits)
      first | rfl | exact ⟨rfl, rfl⟩
    simp only [Act.put, List.setIfInBounds_toArray, List.set_cons_succ, List.set_cons_zero]
  refine rel_fix rfl rfl ?_ ?_
  · apply Exists.intro
    apply Exists.intro
    refine ⟨fun wr => ?_, fun wr nr hJ => ?_⟩
    · go_simp
      first | exact ⟨rfl, rfl⟩ | rfl
    · exact fldR_any 68 _
  simp only [Act.put, List.setIfInBounds_toArray, List.set_cons_succ, List.set_cons_zero]
  repeat
    refine relAt_det rfl rfl ?_
    apply Exists.intro
    refine ⟨fun wr nr hJ => ?_, ?_⟩
    · obtain ⟨q0, q1, q2, q3, q4⟩ := fiveBlks hJ
      clear hJ
      (go_simp; try go_bits)
      first | rfl | exact ⟨rfl, rfl⟩
    simp only [Act.put, List.setIfInBounds_toArray, List.set_cons_succ, List.set_cons_zero]
  refine relAt_nil (fun w1 hJ hF => ?_)
  clear hF
  go_wp2_with fail
  go_ret
  exact ⟨_, _, rfl, RdF.blk (fs := [fldR 68, ⟨78, ⟨#[]⟩, -2147483648, 2147483647⟩]) (Blk.new _ _ _), (fiveExt.trans hJ).alloc _⟩

set_option maxHeartbeats 4000000 in
set_option maxRecDepth 100000 in
theorem fieldsOf_3 (m0 m1 m2 m3 m4 k d a b c p n m : Int) (w : World) (hb : Small m1) (hq : Small m4) (hl : Small m3) :
    Calls Try.prog 93 #[.agg #[.int .i64 m0, .int .i64 m1, .int .i64 m2, .int .i64 m3, .int .i64 m4], .agg (Ins.cells ⟨3, k, d, a, b, c, p, n, m⟩).toArray] w (FieldsPost [fldR 68, ⟨67, ⟨#[]⟩, -1000, 1000⟩, ⟨78, ⟨#[]⟩, -2147483648, 2147483647⟩, ⟨77, ⟨#[]⟩, 0, 1000000⟩] w) := by
  obtain ⟨hb0, hb1⟩ := hb
  obtain ⟨hq0, hq1⟩ := hq
  obtain ⟨hl0, hl1⟩ := hl
  simp only [Ins.cells]
  go_enter Try.func93, Try.ntmps93
  go_wp2_with fail
  refine wp_region_rel 5 (JE _) (Ext []) (kinds [(1, sFix (.agg #[.int .u8 68, .string ⟨#[114]⟩, .int .i64 0, .int .i64 15]))]) (by kernel_rfl) (by kernel_rfl) JE.less ?_ JE.start ?_
  · repeat (first | exact Stays.nil | refine Stays.cons sFix.stays ?_)
  simp only [List.take_succ_cons, List.take_zero, List.drop_succ_cons, List.drop_zero]
  repeat
    refine relAt_det rfl rfl ?_
    apply Exists.intro
    refine ⟨fun wr nr hJ => ?_, ?_⟩
    · obtain ⟨q0, q1, q2, q3, q4⟩ := fiveBlks hJ
      clear hJ
      (go_simp; try go_bits)
      first | rfl | exact ⟨rfl, rfl⟩
    simp only [Act.put, List.setIfInBounds_toArray, List.set_cons_succ, List.set_cons_zero]
  refine rel_fix rfl rfl ?_ ?_
  · apply Exists.intro
    apply Exists.intro
    refine ⟨fun wr => ?_, fun wr nr hJ => ?_⟩
    · go_simp
      first | exact ⟨rfl, rfl⟩ | rfl
    · exact fldR_any 68 _
  simp only [Act.put, List.setIfInBounds_toArray, List.set_cons_succ, List.set_cons_zero]
  repeat
    refine relAt_det rfl rfl ?_
    apply Exists.intro
    refine ⟨fun wr nr hJ => ?_, ?_⟩
    · obtain ⟨q0, q1, q2, q3, q4⟩ := fiveBlks hJ
      clear hJ
      (go_simp; try go_bits)
      first | rfl | exact ⟨rfl, rfl⟩
    simp only [Act.put, List.setIfInBounds_toArray, List.set_cons_succ, List.set_cons_zero]
  refine relAt_nil (fun w1 hJ hF => ?_)
  clear hF
  go_wp2_with fail
  go_ret
  exact ⟨_, _, rfl, RdF.blk (fs := [fldR 68, ⟨67, ⟨#[]⟩, -1000, 1000⟩, ⟨78, ⟨#[]⟩, -2147483648, 2147483647⟩, ⟨77, ⟨#[]⟩, 0, 1000000⟩]) (Blk.new _ _ _), (fiveExt.trans hJ).alloc _⟩

set_option maxHeartbeats 4000000 in
set_option maxRecDepth 100000 in
theorem fieldsOf_4 (m0 m1 m2 m3 m4 k d a b c p n m : Int) (w : World) (hb : Small m1) (hq : Small m4) (hl : Small m3) :
    Calls Try.prog 93 #[.agg #[.int .i64 m0, .int .i64 m1, .int .i64 m2, .int .i64 m3, .int .i64 m4], .agg (Ins.cells ⟨4, k, d, a, b, c, p, n, m⟩).toArray] w (FieldsPost [] w) := by
  obtain ⟨hb0, hb1⟩ := hb
  obtain ⟨hq0, hq1⟩ := hq
  obtain ⟨hl0, hl1⟩ := hl
  simp only [Ins.cells]
  go_enter Try.func93, Try.ntmps93
  go_wp2_with fail
  go_ret
  refine ⟨none, _, rfl, .inl rfl, ?_⟩
  exact fiveExt

set_option maxHeartbeats 4000000 in
set_option maxRecDepth 100000 in
theorem fieldsOf_5 (m0 m1 m2 m3 m4 k d a b c p n m : Int) (w : World) (hb : Small m1) (hq : Small m4) (hl : Small m3) :
    Calls Try.prog 93 #[.agg #[.int .i64 m0, .int .i64 m1, .int .i64 m2, .int .i64 m3, .int .i64 m4], .agg (Ins.cells ⟨5, k, d, a, b, c, p, n, m⟩).toArray] w (FieldsPost [fldR 68, fldR 65, ⟨78, ⟨#[]⟩, -2147483648, 2147483647⟩] w) := by
  obtain ⟨hb0, hb1⟩ := hb
  obtain ⟨hq0, hq1⟩ := hq
  obtain ⟨hl0, hl1⟩ := hl
  simp only [Ins.cells]
  go_enter Try.func93, Try.ntmps93
  go_wp2_with fail
  refine wp_region_rel 5 (JE _) (Ext []) (kinds [(1, sFix (.agg #[.int .u8 68, .string ⟨#[114]⟩, .int .i64 0, .int .i64 15])), (3, sFix (.agg #[.int .u8 65, .string ⟨#[114]⟩, .int .i64 0, .int .i64 15]))]) (by kernel_rfl) (by kernel_rfl) JE.less ?_ JE.start ?_
  · repeat (first | exact Stays.nil | refine Stays.cons sFix.stays ?_)
  simp only [List.take_succ_cons, List.take_zero, List.drop_succ_cons, List.drop_zero]
  repeat
    refine relAt_det rfl rfl ?_
    apply Exists.intro
    refine ⟨fun wr nr hJ => ?_, ?_⟩
    · obtain ⟨q0, q1, q2, q3, q4⟩ := fiveBlks hJ
      clear hJ
      (go_simp; try go_bits)
      first | rfl | exact ⟨rfl, rfl⟩
    simp only [Act.put, List.setIfInBounds_toArray, List.set_cons_succ, List.set_cons_zero]
  refine rel_fix rfl rfl ?_ ?_
  · apply Exists.intro
    apply Exists.intro
    refine ⟨fun wr => ?_, fun wr nr hJ => ?_⟩
    · go_simp
      first | exact ⟨rfl, rfl⟩ | rfl
    · exact fldR_any 68 _
  simp only [Act.put, List.setIfInBounds_toArray, List.set_cons_succ, List.set_cons_zero]
  repeat
    refine relAt_det rfl rfl ?_
    apply Exists.intro
    refine ⟨fun wr nr hJ => ?_, ?_⟩
    · obtain ⟨q0, q1, q2, q3, q4⟩ := fiveBlks hJ
      clear hJ
      (go_simp; try go_bits)
      first | rfl | exact ⟨rfl, rfl⟩
    simp only [Act.put, List.setIfInBounds_toArray, List.set_cons_succ, List.set_cons_zero]
  refine rel_fix rfl rfl ?_ ?_
  · apply Exists.intro
    apply Exists.intro
    refine ⟨fun wr => ?_, fun wr nr hJ => ?_⟩
    · go_simp
      first | exact ⟨rfl, rfl⟩ | rfl
    · exact fldR_any 65 _
  simp only [Act.put, List.setIfInBounds_toArray, List.set_cons_succ, List.set_cons_zero]
  repeat
    refine relAt_det rfl rfl ?_
    apply Exists.intro
    refine ⟨fun wr nr hJ => ?_, ?_⟩
    · obtain ⟨q0, q1, q2, q3, q4⟩ := fiveBlks hJ
      clear hJ
      (go_simp; try go_bits)
      first | rfl | exact ⟨rfl, rfl⟩
    simp only [Act.put, List.setIfInBounds_toArray, List.set_cons_succ, List.set_cons_zero]
  refine relAt_nil (fun w1 hJ hF => ?_)
  clear hF
  go_wp2_with fail
  go_ret
  exact ⟨_, _, rfl, RdF.blk (fs := [fldR 68, fldR 65, ⟨78, ⟨#[]⟩, -2147483648, 2147483647⟩]) (Blk.new _ _ _), (fiveExt.trans hJ).alloc _⟩

set_option maxHeartbeats 4000000 in
set_option maxRecDepth 100000 in
theorem fieldsOf_6 (m0 m1 m2 m3 m4 k d a b c p n m : Int) (w : World) (hb : Small m1) (hq : Small m4) (hl : Small m3) :
    Calls Try.prog 93 #[.agg #[.int .i64 m0, .int .i64 m1, .int .i64 m2, .int .i64 m3, .int .i64 m4], .agg (Ins.cells ⟨6, k, d, a, b, c, p, n, m⟩).toArray] w (FieldsPost [fldR 65, fldR 66, ⟨78, ⟨#[]⟩, -2147483648, 2147483647⟩] w) := by
  obtain ⟨hb0, hb1⟩ := hb
  obtain ⟨hq0, hq1⟩ := hq
  obtain ⟨hl0, hl1⟩ := hl
  simp only [Ins.cells]
  go_enter Try.func93, Try.ntmps93
  go_wp2_with fail
  refine wp_region_rel 5 (JE _) (Ext []) (kinds [(1, sFix (.agg #[.int .u8 65, .string ⟨#[114]⟩, .int .i64 0, .int .i64 15])), (3, sFix (.agg #[.int .u8 66, .string ⟨#[114]⟩, .int .i64 0, .int .i64 15]))]) (by kernel_rfl) (by kernel_rfl) JE.less ?_ JE.start ?_
  · repeat (first | exact Stays.nil | refine Stays.cons sFix.stays ?_)
  simp only [List.take_succ_cons, List.take_zero, List.drop_succ_cons, List.drop_zero]
  repeat
    refine relAt_det rfl rfl ?_
    apply Exists.intro
    refine ⟨fun wr nr hJ => ?_, ?_⟩
    · obtain ⟨q0, q1, q2, q3, q4⟩ := fiveBlks hJ
      clear hJ
      (go_simp; try go_bits)
      first | rfl | exact ⟨rfl, rfl⟩
    simp only [Act.put, List.setIfInBounds_toArray, List.set_cons_succ, List.set_cons_zero]
  refine rel_fix rfl rfl ?_ ?_
  · apply Exists.intro
    apply Exists.intro
    refine ⟨fun wr => ?_, fun wr nr hJ => ?_⟩
    · go_simp
      first | exact ⟨rfl, rfl⟩ | rfl
    · exact fldR_any 65 _
  simp only [Act.put, List.setIfInBounds_toArray, List.set_cons_succ, List.set_cons_zero]
  repeat
    refine relAt_det rfl rfl ?_
    apply Exists.intro
    refine ⟨fun wr nr hJ => ?_, ?_⟩
    · obtain ⟨q0, q1, q2, q3, q4⟩ := fiveBlks hJ
      clear hJ
      (go_simp; try go_bits)
      first | rfl | exact ⟨rfl, rfl⟩
    simp only [Act.put, List.setIfInBounds_toArray, List.set_cons_succ, List.set_cons_zero]
  refine rel_fix rfl rfl ?_ ?_
  · apply Exists.intro
    apply Exists.intro
    refine ⟨fun wr => ?_, fun wr nr hJ => ?_⟩
    · go_simp
      first | exact ⟨rfl, rfl⟩ | rfl
    · exact fldR_any 66 _
  simp only [Act.put, List.setIfInBounds_toArray, List.set_cons_succ, List.set_cons_zero]
  repeat
    refine relAt_det rfl rfl ?_
    apply Exists.intro
    refine ⟨fun wr nr hJ => ?_, ?_⟩
    · obtain ⟨q0, q1, q2, q3, q4⟩ := fiveBlks hJ
      clear hJ
      (go_simp; try go_bits)
      first | rfl | exact ⟨rfl, rfl⟩
    simp only [Act.put, List.setIfInBounds_toArray, List.set_cons_succ, List.set_cons_zero]
  refine relAt_nil (fun w1 hJ hF => ?_)
  clear hF
  go_wp2_with fail
  go_ret
  exact ⟨_, _, rfl, RdF.blk (fs := [fldR 65, fldR 66, ⟨78, ⟨#[]⟩, -2147483648, 2147483647⟩]) (Blk.new _ _ _), (fiveExt.trans hJ).alloc _⟩

set_option maxHeartbeats 4000000 in
set_option maxRecDepth 100000 in
theorem fieldsOf_7 (m0 m1 m2 m3 m4 k d a b c p n m : Int) (w : World) (hb : Small m1) (hq : Small m4) (hl : Small m3) :
    Calls Try.prog 93 #[.agg #[.int .i64 m0, .int .i64 m1, .int .i64 m2, .int .i64 m3, .int .i64 m4], .agg (Ins.cells ⟨7, k, d, a, b, c, p, n, m⟩).toArray] w (FieldsPost [fldR 68, fldR 65, ⟨67, ⟨#[98]⟩, 0, m1 - 1⟩, ⟨78, ⟨#[]⟩, -2147483648, 2147483647⟩] w) := by
  obtain ⟨hb0, hb1⟩ := hb
  obtain ⟨hq0, hq1⟩ := hq
  obtain ⟨hl0, hl1⟩ := hl
  simp only [Ins.cells]
  go_enter Try.func93, Try.ntmps93
  go_wp2_with fail
  refine wp_region_rel 6 (JE _) (Ext []) (kinds [(1, sFix (.agg #[.int .u8 68, .string ⟨#[114]⟩, .int .i64 0, .int .i64 15])), (3, sFix (.agg #[.int .u8 65, .string ⟨#[114]⟩, .int .i64 0, .int .i64 15]))]) (by kernel_rfl) (by kernel_rfl) JE.less ?_ JE.start ?_
  · repeat (first | exact Stays.nil | refine Stays.cons sFix.stays ?_)
  simp only [List.take_succ_cons, List.take_zero, List.drop_succ_cons, List.drop_zero]
  repeat
    refine relAt_det rfl rfl ?_
    apply Exists.intro
    refine ⟨fun wr nr hJ => ?_, ?_⟩
    · obtain ⟨q0, q1, q2, q3, q4⟩ := fiveBlks hJ
      clear hJ
      (go_simp; try go_bits)
      first | rfl | exact ⟨rfl, rfl⟩
    simp only [Act.put, List.setIfInBounds_toArray, List.set_cons_succ, List.set_cons_zero]
  refine rel_fix rfl rfl ?_ ?_
  · apply Exists.intro
    apply Exists.intro
    refine ⟨fun wr => ?_, fun wr nr hJ => ?_⟩
    · go_simp
      first | exact ⟨rfl, rfl⟩ | rfl
    · exact fldR_any 68 _
  simp only [Act.put, List.setIfInBounds_toArray, List.set_cons_succ, List.set_cons_zero]
  repeat
    refine relAt_det rfl rfl ?_
    apply Exists.intro
    refine ⟨fun wr nr hJ => ?_, ?_⟩
    · obtain ⟨q0, q1, q2, q3, q4⟩ := fiveBlks hJ
      clear hJ
      (go_simp; try go_bits)
      first | rfl | exact ⟨rfl, rfl⟩
    simp only [Act.put, List.setIfInBounds_toArray, List.set_cons_succ, List.set_cons_zero]
  refine rel_fix rfl rfl ?_ ?_
  · apply Exists.intro
    apply Exists.intro
    refine ⟨fun wr => ?_, fun wr nr hJ => ?_⟩
    · go_simp
      first | exact ⟨rfl, rfl⟩ | rfl
    · exact fldR_any 65 _
  simp only [Act.put, List.setIfInBounds_toArray, List.set_cons_succ, List.set_cons_zero]
  repeat
    refine relAt_det rfl rfl ?_
    apply Exists.intro
    refine ⟨fun wr nr hJ => ?_, ?_⟩
    · obtain ⟨q0, q1, q2, q3, q4⟩ := fiveBlks hJ
      clear hJ
      (go_simp; try go_bits)
      first | rfl | exact ⟨rfl, rfl⟩
    simp only [Act.put, List.setIfInBounds_toArray, List.set_cons_succ, List.set_cons_zero]
  refine relAt_nil (fun w1 hJ hF => ?_)
  clear hF
  go_wp2_with fail
  go_ret
  exact ⟨_, _, rfl, RdF.blk (fs := [fldR 68, fldR 65, ⟨67, ⟨#[98]⟩, 0, m1 - 1⟩, ⟨78, ⟨#[]⟩, -2147483648, 2147483647⟩]) (Blk.new _ _ _), (fiveExt.trans hJ).alloc _⟩

set_option maxHeartbeats 4000000 in
set_option maxRecDepth 100000 in
theorem fieldsOf_8 (m0 m1 m2 m3 m4 k d a b c p n m : Int) (w : World) (hb : Small m1) (hq : Small m4) (hl : Small m3) :
    Calls Try.prog 93 #[.agg #[.int .i64 m0, .int .i64 m1, .int .i64 m2, .int .i64 m3, .int .i64 m4], .agg (Ins.cells ⟨8, k, d, a, b, c, p, n, m⟩).toArray] w (FieldsPost [fldR 65, fldR 66, ⟨67, ⟨#[98]⟩, 0, m1 - 1⟩, ⟨78, ⟨#[]⟩, -2147483648, 2147483647⟩] w) := by
  obtain ⟨hb0, hb1⟩ := hb
  obtain ⟨hq0, hq1⟩ := hq
  obtain ⟨hl0, hl1⟩ := hl
  simp only [Ins.cells]
  go_enter Try.func93, Try.ntmps93
  go_wp2_with fail
  refine wp_region_rel 6 (JE _) (Ext []) (kinds [(1, sFix (.agg #[.int .u8 65, .string ⟨#[114]⟩, .int .i64 0, .int .i64 15])), (3, sFix (.agg #[.int .u8 66, .string ⟨#[114]⟩, .int .i64 0, .int .i64 15]))]) (by kernel_rfl) (by kernel_rfl) JE.less ?_ JE.start ?_
  · repeat (first | exact Stays.nil | refine Stays.cons sFix.stays ?_)
  simp only [List.take_succ_cons, List.take_zero, List.drop_succ_cons, List.drop_zero]
  repeat
    refine relAt_det rfl rfl ?_
    apply Exists.intro
    refine ⟨fun wr nr hJ => ?_, ?_⟩
    · obtain ⟨q0, q1, q2, q3, q4⟩ := fiveBlks hJ
      clear hJ
      (go_simp; try go_bits)
      first | rfl | exact ⟨rfl, rfl⟩
    simp only [Act.put, List.setIfInBounds_toArray, List.set_cons_succ, List.set_cons_zero]
  refine rel_fix rfl rfl ?_ ?_
  · apply Exists.intro
    apply Exists.intro
    refine ⟨fun wr => ?_, fun wr nr hJ => ?_⟩
    · go_simp
      first | exact ⟨rfl, rfl⟩ | rfl
    · exact fldR_any 65 _
  simp only [Act.put, List.setIfInBounds_toArray, List.set_cons_succ, List.set_cons_zero]
  repeat
    refine relAt_det rfl rfl ?_
    apply Exists.intro
    refine ⟨fun wr nr hJ => ?_, ?_⟩
    · obtain ⟨q0, q1, q2, q3, q4⟩ := fiveBlks hJ
      clear hJ
      (go_simp; try go_bits)
      first | rfl | exact ⟨rfl, rfl⟩
    simp only [Act.put, List.setIfInBounds_toArray, List.set_cons_succ, List.set_cons_zero]
  refine rel_fix rfl rfl ?_ ?_
  · apply Exists.intro
    apply Exists.intro
    refine ⟨fun wr => ?_, fun wr nr hJ => ?_⟩
    · go_simp
      first | exact ⟨rfl, rfl⟩ | rfl
    · exact fldR_any 66 _
  simp only [Act.put, List.setIfInBounds_toArray, List.set_cons_succ, List.set_cons_zero]
  repeat
    refine relAt_det rfl rfl ?_
    apply Exists.intro
    refine ⟨fun wr nr hJ => ?_, ?_⟩
    · obtain ⟨q0, q1, q2, q3, q4⟩ := fiveBlks hJ
      clear hJ
      (go_simp; try go_bits)
      first | rfl | exact ⟨rfl, rfl⟩
    simp only [Act.put, List.setIfInBounds_toArray, List.set_cons_succ, List.set_cons_zero]
  refine relAt_nil (fun w1 hJ hF => ?_)
  clear hF
  go_wp2_with fail
  go_ret
  exact ⟨_, _, rfl, RdF.blk (fs := [fldR 65, fldR 66, ⟨67, ⟨#[98]⟩, 0, m1 - 1⟩, ⟨78, ⟨#[]⟩, -2147483648, 2147483647⟩]) (Blk.new _ _ _), (fiveExt.trans hJ).alloc _⟩

set_option maxHeartbeats 4000000 in
set_option maxRecDepth 100000 in
theorem fieldsOf_9 (m0 m1 m2 m3 m4 k d a b c p n m : Int) (w : World) (hb : Small m1) (hq : Small m4) (hl : Small m3) :
    Calls Try.prog 93 #[.agg #[.int .i64 m0, .int .i64 m1, .int .i64 m2, .int .i64 m3, .int .i64 m4], .agg (Ins.cells ⟨9, k, d, a, b, c, p, n, m⟩).toArray] w (FieldsPost [fldV 68, fldR 65, ⟨67, ⟨#[98]⟩, 0, m1 - 1⟩, ⟨78, ⟨#[]⟩, -2147483648, 2147483647⟩] w) := by
  obtain ⟨hb0, hb1⟩ := hb
  obtain ⟨hq0, hq1⟩ := hq
  obtain ⟨hl0, hl1⟩ := hl
  simp only [Ins.cells]
  go_enter Try.func93, Try.ntmps93
  go_wp2_with fail
  refine wp_region_rel 6 (JE _) (Ext []) (kinds [(1, sFix (.agg #[.int .u8 68, .string ⟨#[118]⟩, .int .i64 0, .int .i64 7])), (3, sFix (.agg #[.int .u8 65, .string ⟨#[114]⟩, .int .i64 0, .int .i64 15]))]) (by kernel_rfl) (by kernel_rfl) JE.less ?_ JE.start ?_
  · repeat (first | exact Stays.nil | refine Stays.cons sFix.stays ?_)
  simp only [List.take_succ_cons, List.take_zero, List.drop_succ_cons, List.drop_zero]
  repeat
    refine relAt_det rfl rfl ?_
    apply Exists.intro
    refine ⟨fun wr nr hJ => ?_, ?_⟩
    · obtain ⟨q0, q1, q2, q3, q4⟩ := fiveBlks hJ
      clear hJ
      (go_simp; try go_bits)
      first | rfl | exact ⟨rfl, rfl⟩
    simp only [Act.put, List.setIfInBounds_toArray, List.set_cons_succ, List.set_cons_zero]
  refine rel_fix rfl rfl ?_ ?_
  · apply Exists.intro
    apply Exists.intro
    refine ⟨fun wr => ?_, fun wr nr hJ => ?_⟩
    · go_simp
      first | exact ⟨rfl, rfl⟩ | rfl
    · exact fldV_any 68 _
  simp only [Act.put, List.setIfInBounds_toArray, List.set_cons_succ, List.set_cons_zero]
  repeat
    refine relAt_det rfl rfl ?_
    apply Exists.intro
    refine ⟨fun wr nr hJ => ?_, ?_⟩
    · obtain ⟨q0, q1, q2, q3, q4⟩ := fiveBlks hJ
      clear hJ
      (go_simp; try go_bits)
      first | rfl | exact ⟨rfl, rfl⟩
    simp only [Act.put, List.setIfInBounds_toArray, List.set_cons_succ, List.set_cons_zero]
  refine rel_fix rfl rfl ?_ ?_
  · apply Exists.intro
    apply Exists.intro
    refine ⟨fun wr => ?_, fun wr nr hJ => ?_⟩
    · go_simp
      first | exact ⟨rfl, rfl⟩ | rfl
    · exact fldR_any 65 _
  simp only [Act.put, List.setIfInBounds_toArray, List.set_cons_succ, List.set_cons_zero]
  repeat
    refine relAt_det rfl rfl ?_
    apply Exists.intro
    refine ⟨fun wr nr hJ => ?_, ?_⟩
    · obtain ⟨q0, q1, q2, q3, q4⟩ := fiveBlks hJ
      clear hJ
      (go_simp; try go_bits)
      first | rfl | exact ⟨rfl, rfl⟩
    simp only [Act.put, List.setIfInBounds_toArray, List.set_cons_succ, List.set_cons_zero]
  refine relAt_nil (fun w1 hJ hF => ?_)
  clear hF
  go_wp2_with fail
  go_ret
  exact ⟨_, _, rfl, RdF.blk (fs := [fldV 68, fldR 65, ⟨67, ⟨#[98]⟩, 0, m1 - 1⟩, ⟨78, ⟨#[]⟩, -2147483648, 2147483647⟩]) (Blk.new _ _ _), (fiveExt.trans hJ).alloc _⟩

set_option maxHeartbeats 4000000 in
set_option maxRecDepth 100000 in
theorem fieldsOf_10 (m0 m1 m2 m3 m4 k d a b c p n m : Int) (w : World) (hb : Small m1) (hq : Small m4) (hl : Small m3) :
    Calls Try.prog 93 #[.agg #[.int .i64 m0, .int .i64 m1, .int .i64 m2, .int .i64 m3, .int .i64 m4], .agg (Ins.cells ⟨10, k, d, a, b, c, p, n, m⟩).toArray] w (FieldsPost [fldR 65, fldV 66, ⟨67, ⟨#[98]⟩, 0, m1 - 1⟩, ⟨78, ⟨#[]⟩, -2147483648, 2147483647⟩] w) := by
  obtain ⟨hb0, hb1⟩ := hb
  obtain ⟨hq0, hq1⟩ := hq
  obtain ⟨hl0, hl1⟩ := hl
  simp only [Ins.cells]
  go_enter Try.func93, Try.ntmps93
  go_wp2_with fail
  refine wp_region_rel 6 (JE _) (Ext []) (kinds [(1, sFix (.agg #[.int .u8 65, .string ⟨#[114]⟩, .int .i64 0, .int .i64 15])), (3, sFix (.agg #[.int .u8 66, .string ⟨#[118]⟩, .int .i64 0, .int .i64 7]))]) (by kernel_rfl) (by kernel_rfl) JE.less ?_ JE.start ?_
  · repeat (first | exact Stays.nil | refine Stays.cons sFix.stays ?_)
  simp only [List.take_succ_cons, List.take_zero, List.drop_succ_cons, List.drop_zero]
  repeat
    refine relAt_det rfl rfl ?_
    apply Exists.intro
    refine ⟨fun wr nr hJ => ?_, ?_⟩
    · obtain ⟨q0, q1, q2, q3, q4⟩ := fiveBlks hJ
      clear hJ
      (go_simp; try go_bits)
      first | rfl | exact ⟨rfl, rfl⟩
    simp only [Act.put, List.setIfInBounds_toArray, List.set_cons_succ, List.set_cons_zero]
  refine rel_fix rfl rfl ?_ ?_
  · apply Exists.intro
    apply Exists.intro
    refine ⟨fun wr => ?_, fun wr nr hJ => ?_⟩
    · go_simp
      first | exact ⟨rfl, rfl⟩ | rfl
    · exact fldR_any 65 _
  simp only [Act.put, List.setIfInBounds_toArray, List.set_cons_succ, List.set_cons_zero]
  repeat
    refine relAt_det rfl rfl ?_
    apply Exists.intro
    refine ⟨fun wr nr hJ => ?_, ?_⟩
    · obtain ⟨q0, q1, q2, q3, q4⟩ := fiveBlks hJ
      clear hJ
      (go_simp; try go_bits)
      first | rfl | exact ⟨rfl, rfl⟩
    simp only [Act.put, List.setIfInBounds_toArray, List.set_cons_succ, List.set_cons_zero]
  refine rel_fix rfl rfl ?_ ?_
  · apply Exists.intro
    apply Exists.intro
    refine ⟨fun wr => ?_, fun wr nr hJ => ?_⟩
    · go_simp
      first | exact ⟨rfl, rfl⟩ | rfl
    · exact fldV_any 66 _
  simp only [Act.put, List.setIfInBounds_toArray, List.set_cons_succ, List.set_cons_zero]
  repeat
    refine relAt_det rfl rfl ?_
    apply Exists.intro
    refine ⟨fun wr nr hJ => ?_, ?_⟩
    · obtain ⟨q0, q1, q2, q3, q4⟩ := fiveBlks hJ
      clear hJ
      (go_simp; try go_bits)
      first | rfl | exact ⟨rfl, rfl⟩
    simp only [Act.put, List.setIfInBounds_toArray, List.set_cons_succ, List.set_cons_zero]
  refine relAt_nil (fun w1 hJ hF => ?_)
  clear hF
  go_wp2_with fail
  go_ret
  exact ⟨_, _, rfl, RdF.blk (fs := [fldR 65, fldV 66, ⟨67, ⟨#[98]⟩, 0, m1 - 1⟩, ⟨78, ⟨#[]⟩, -2147483648, 2147483647⟩]) (Blk.new _ _ _), (fiveExt.trans hJ).alloc _⟩

set_option maxHeartbeats 4000000 in
set_option maxRecDepth 100000 in
theorem fieldsOf_12 (m0 m1 m2 m3 m4 k d a b c p n m : Int) (w : World) (hb : Small m1) (hq : Small m4) (hl : Small m3) :
    Calls Try.prog 93 #[.agg #[.int .i64 m0, .int .i64 m1, .int .i64 m2, .int .i64 m3, .int .i64 m4], .agg (Ins.cells ⟨12, k, d, a, b, c, p, n, m⟩).toArray] w (FieldsPost [fldV 68, fldR 65] w) := by
  obtain ⟨hb0, hb1⟩ := hb
  obtain ⟨hq0, hq1⟩ := hq
  obtain ⟨hl0, hl1⟩ := hl
  simp only [Ins.cells]
  go_enter Try.func93, Try.ntmps93
  go_wp2_with fail
  refine (fldV_any 68 _).mono ?_
  rintro e w68 ⟨rfl, hE68⟩
  go_wp2_with fail
  refine (fldR_any 65 _).mono ?_
  rintro e w65 ⟨rfl, hE65⟩
  go_wp2_with fail
  go_ret
  refine ⟨_, _, rfl, RdF.blk (fs := [fldV 68, fldR 65]) (Blk.new' _ _ _ _ (by simp)), ?_⟩
  exact (((fiveExt.trans hE68).trans hE65)).alloc _

set_option maxHeartbeats 4000000 in
set_option maxRecDepth 100000 in
theorem fieldsOf_13 (m0 m1 m2 m3 m4 k d a b c p n m : Int) (w : World) (hb : Small m1) (hq : Small m4) (hl : Small m3) :
    Calls Try.prog 93 #[.agg #[.int .i64 m0, .int .i64 m1, .int .i64 m2, .int .i64 m3, .int .i64 m4], .agg (Ins.cells ⟨13, k, d, a, b, c, p, n, m⟩).toArray] w (FieldsPost [fldR 68, fldV 65, ⟨78, ⟨#[]⟩, 0, m3 - 1⟩] w) := by
  obtain ⟨hb0, hb1⟩ := hb
  obtain ⟨hq0, hq1⟩ := hq
  obtain ⟨hl0, hl1⟩ := hl
  simp only [Ins.cells]
  go_enter Try.func93, Try.ntmps93
  go_wp2_with fail
  refine wp_region_rel 8 (JE _) (Ext []) (kinds [(1, sFix (.agg #[.int .u8 68, .string ⟨#[114]⟩, .int .i64 0, .int .i64 15])), (3, sFix (.agg #[.int .u8 65, .string ⟨#[118]⟩, .int .i64 0, .int .i64 7]))]) (by kernel_rfl) (by kernel_rfl) JE.less ?_ JE.start ?_
  · repeat (first | exact Stays.nil | refine Stays.cons sFix.stays ?_)
  simp only [List.take_succ_cons, List.take_zero, List.drop_succ_cons, List.drop_zero]
  repeat
    refine relAt_det rfl rfl ?_
    apply Exists.intro
    refine ⟨fun wr nr hJ => ?_, ?_⟩
    · obtain ⟨q0, q1, q2, q3, q4⟩ := fiveBlks hJ
      clear hJ
      (go_simp; try go_bits)
      first | rfl | exact ⟨rfl, rfl⟩
    simp only [Act.put, List.setIfInBounds_toArray, List.set_cons_succ, List.set_cons_zero]
  refine rel_fix rfl rfl ?_ ?_
  · apply Exists.intro
    apply Exists.intro
    refine ⟨fun wr => ?_, fun wr nr hJ => ?_⟩
    · go_simp
      first | exact ⟨rfl, rfl⟩ | rfl
    · exact fldR_any 68 _
  simp only [Act.put, List.setIfInBounds_toArray, List.set_cons_succ, List.set_cons_zero]
  repeat
    refine relAt_det rfl rfl ?_
    apply Exists.intro
    refine ⟨fun wr nr hJ => ?_, ?_⟩
    · obtain ⟨q0, q1, q2, q3, q4⟩ := fiveBlks hJ
      clear hJ
      (go_simp; try go_bits)
      first | rfl | exact ⟨rfl, rfl⟩
    simp only [Act.put, List.setIfInBounds_toArray, List.set_cons_succ, List.set_cons_zero]
  refine rel_fix rfl rfl ?_ ?_
  · apply Exists.intro
    apply Exists.intro
    refine ⟨fun wr => ?_, fun wr nr hJ => ?_⟩
    · go_simp
      first | exact ⟨rfl, rfl⟩ | rfl
    · exact fldV_any 65 _
  simp only [Act.put, List.setIfInBounds_toArray, List.set_cons_succ, List.set_cons_zero]
  repeat
    refine relAt_det rfl rfl ?_
    apply Exists.intro
    refine ⟨fun wr nr hJ => ?_, ?_⟩
    · obtain ⟨q0, q1, q2, q3, q4⟩ := fiveBlks hJ
      clear hJ
      (go_simp; try go_bits)
      first | rfl | exact ⟨rfl, rfl⟩
    simp only [Act.put, List.setIfInBounds_toArray, List.set_cons_succ, List.set_cons_zero]
  refine relAt_nil (fun w1 hJ hF => ?_)
  clear hF
  go_wp2_with fail
  go_ret
  exact ⟨_, _, rfl, RdF.blk (fs := [fldR 68, fldV 65, ⟨78, ⟨#[]⟩, 0, m3 - 1⟩]) (Blk.new _ _ _), (fiveExt.trans hJ).alloc _⟩

set_option maxHeartbeats 4000000 in
set_option maxRecDepth 100000 in
theorem fieldsOf_14 (m0 m1 m2 m3 m4 k d a b c p n m : Int) (w : World) (hb : Small m1) (hq : Small m4) (hl : Small m3) :
    Calls Try.prog 93 #[.agg #[.int .i64 m0, .int .i64 m1, .int .i64 m2, .int .i64 m3, .int .i64 m4], .agg (Ins.cells ⟨14, k, d, a, b, c, p, n, m⟩).toArray] w (FieldsPost [fldR 65, ⟨67, ⟨#[98]⟩, 0, m1 - 1⟩, ⟨78, ⟨#[]⟩, -2147483648, 2147483647⟩, ⟨77, ⟨#[]⟩, 0, m2⟩] w) := by
  obtain ⟨hb0, hb1⟩ := hb
  obtain ⟨hq0, hq1⟩ := hq
  obtain ⟨hl0, hl1⟩ := hl
  simp only [Ins.cells]
  go_enter Try.func93, Try.ntmps93
  go_wp2_with fail
  refine wp_region_rel 7 (JE _) (Ext []) (kinds [(1, sFix (.agg #[.int .u8 65, .string ⟨#[114]⟩, .int .i64 0, .int .i64 15]))]) (by kernel_rfl) (by kernel_rfl) JE.less ?_ JE.start ?_
  · repeat (first | exact Stays.nil | refine Stays.cons sFix.stays ?_)
  simp only [List.take_succ_cons, List.take_zero, List.drop_succ_cons, List.drop_zero]
  repeat
    refine relAt_det rfl rfl ?_
    apply Exists.intro
    refine ⟨fun wr nr hJ => ?_, ?_⟩
    · obtain ⟨q0, q1, q2, q3, q4⟩ := fiveBlks hJ
      clear hJ
      (go_simp; try go_bits)
      first | rfl | exact ⟨rfl, rfl⟩
    simp only [Act.put, List.setIfInBounds_toArray, List.set_cons_succ, List.set_cons_zero]
  refine rel_fix rfl rfl ?_ ?_
  · apply Exists.intro
    apply Exists.intro
    refine ⟨fun wr => ?_, fun wr nr hJ => ?_⟩
    · go_simp
      first | exact ⟨rfl, rfl⟩ | rfl
    · exact fldR_any 65 _
  simp only [Act.put, List.setIfInBounds_toArray, List.set_cons_succ, List.set_cons_zero]
  repeat
    refine relAt_det rfl rfl ?_
    apply Exists.intro
    refine ⟨fun wr nr hJ => ?_, ?_⟩
    · obtain ⟨q0, q1, q2, q3, q4⟩ := fiveBlks hJ
      clear hJ
      (go_simp; try go_bits)
      first | rfl | exact ⟨rfl, rfl⟩
    simp only [Act.put, List.setIfInBounds_toArray, List.set_cons_succ, List.set_cons_zero]
  refine relAt_nil (fun w1 hJ hF => ?_)
  clear hF
  go_wp2_with fail
  go_ret
  exact ⟨_, _, rfl, RdF.blk (fs := [fldR 65, ⟨67, ⟨#[98]⟩, 0, m1 - 1⟩, ⟨78, ⟨#[]⟩, -2147483648, 2147483647⟩, ⟨77, ⟨#[]⟩, 0, m2⟩]) (Blk.new _ _ _), (fiveExt.trans hJ).alloc _⟩

set_option maxHeartbeats 4000000 in
set_option maxRecDepth 100000 in
theorem fieldsOf_15 (m0 m1 m2 m3 m4 k d a b c p n m : Int) (w : World) (hb : Small m1) (hq : Small m4) (hl : Small m3) :
    Calls Try.prog 93 #[.agg #[.int .i64 m0, .int .i64 m1, .int .i64 m2, .int .i64 m3, .int .i64 m4], .agg (Ins.cells ⟨15, k, d, a, b, c, p, n, m⟩).toArray] w (FieldsPost [fldV 65] w) := by
  obtain ⟨hb0, hb1⟩ := hb
  obtain ⟨hq0, hq1⟩ := hq
  obtain ⟨hl0, hl1⟩ := hl
  simp only [Ins.cells]
  go_enter Try.func93, Try.ntmps93
  go_wp2_with fail
  refine (fldV_any 65 _).mono ?_
  rintro e w65 ⟨rfl, hE65⟩
  go_wp2_with fail
  go_ret
  refine ⟨_, _, rfl, RdF.blk (fs := [fldV 65]) (Blk.new' _ _ _ _ (by simp)), ?_⟩
  exact ((fiveExt.trans hE65)).alloc _

set_option maxHeartbeats 4000000 in
set_option maxRecDepth 100000 in
theorem fieldsOf_16 (m0 m1 m2 m3 m4 k d a b c p n m : Int) (w : World) (hb : Small m1) (hq : Small m4) (hl : Small m3) :
    Calls Try.prog 93 #[.agg #[.int .i64 m0, .int .i64 m1, .int .i64 m2, .int .i64 m3, .int .i64 m4], .agg (Ins.cells ⟨16, k, d, a, b, c, p, n, m⟩).toArray] w (FieldsPost [] w) := by
  obtain ⟨hb0, hb1⟩ := hb
  obtain ⟨hq0, hq1⟩ := hq
  obtain ⟨hl0, hl1⟩ := hl
  simp only [Ins.cells]
  go_enter Try.func93, Try.ntmps93
  go_wp2_with fail
  go_ret
  refine ⟨none, _, rfl, .inl rfl, ?_⟩
  exact fiveExt

set_option maxHeartbeats 4000000 in
set_option maxRecDepth 100000 in
theorem fieldsOf_17 (m0 m1 m2 m3 m4 k d a b c p n m : Int) (w : World) (hb : Small m1) (hq : Small m4) (hl : Small m3) :
    Calls Try.prog 93 #[.agg #[.int .i64 m0, .int .i64 m1, .int .i64 m2, .int .i64 m3, .int .i64 m4], .agg (Ins.cells ⟨17, k, d, a, b, c, p, n, m⟩).toArray] w (FieldsPost [fldV 68] w) := by
  obtain ⟨hb0, hb1⟩ := hb
  obtain ⟨hq0, hq1⟩ := hq
  obtain ⟨hl0, hl1⟩ := hl
  simp only [Ins.cells]
  go_enter Try.func93, Try.ntmps93
  go_wp2_with fail
  refine (fldV_any 68 _).mono ?_
  rintro e w68 ⟨rfl, hE68⟩
  go_wp2_with fail
  go_ret
  refine ⟨_, _, rfl, RdF.blk (fs := [fldV 68]) (Blk.new' _ _ _ _ (by simp)), ?_⟩
  exact ((fiveExt.trans hE68)).alloc _

set_option maxHeartbeats 4000000 in
set_option maxRecDepth 100000 in
theorem fieldsOf_18 (m0 m1 m2 m3 m4 k d a b c p n m : Int) (w : World) (hb : Small m1) (hq : Small m4) (hl : Small m3) :
    Calls Try.prog 93 #[.agg #[.int .i64 m0, .int .i64 m1, .int .i64 m2, .int .i64 m3, .int .i64 m4], .agg (Ins.cells ⟨18, k, d, a, b, c, p, n, m⟩).toArray] w (FieldsPost [⟨68, ⟨#[113]⟩, 0, m4 - 1⟩, fldR 65, fldR 66, ⟨67, ⟨#[98]⟩, 0, m1 - 1⟩, ⟨78, ⟨#[]⟩, -2147483648, 2147483647⟩, ⟨77, ⟨#[]⟩, 1, m2⟩] w) := by
  obtain ⟨hb0, hb1⟩ := hb
  obtain ⟨hq0, hq1⟩ := hq
  obtain ⟨hl0, hl1⟩ := hl
  simp only [Ins.cells]
  go_enter Try.func93, Try.ntmps93
  go_wp2_with fail
  refine wp_region_rel 10 (JE _) (Ext []) (kinds [(2, sFix (.agg #[.int .u8 65, .string ⟨#[114]⟩, .int .i64 0, .int .i64 15])), (4, sFix (.agg #[.int .u8 66, .string ⟨#[114]⟩, .int .i64 0, .int .i64 15]))]) (by kernel_rfl) (by kernel_rfl) JE.less ?_ JE.start ?_
  · repeat (first | exact Stays.nil | refine Stays.cons sFix.stays ?_)
  simp only [List.take_succ_cons, List.take_zero, List.drop_succ_cons, List.drop_zero]
  repeat
    refine relAt_det rfl rfl ?_
    apply Exists.intro
    refine ⟨fun wr nr hJ => ?_, ?_⟩
    · obtain ⟨q0, q1, q2, q3, q4⟩ := fiveBlks hJ
      clear hJ
      (go_simp; try go_bits)
      first | rfl | exact ⟨rfl, rfl⟩
    simp only [Act.put, List.setIfInBounds_toArray, List.set_cons_succ, List.set_cons_zero]
  refine rel_fix rfl rfl ?_ ?_
  · apply Exists.intro
    apply Exists.intro
    refine ⟨fun wr => ?_, fun wr nr hJ => ?_⟩
    · go_simp
      first | exact ⟨rfl, rfl⟩ | rfl
    · exact fldR_any 65 _
  simp only [Act.put, List.setIfInBounds_toArray, List.set_cons_succ, List.set_cons_zero]
  repeat
    refine relAt_det rfl rfl ?_
    apply Exists.intro
    refine ⟨fun wr nr hJ => ?_, ?_⟩
    · obtain ⟨q0, q1, q2, q3, q4⟩ := fiveBlks hJ
      clear hJ
      (go_simp; try go_bits)
      first | rfl | exact ⟨rfl, rfl⟩
    simp only [Act.put, List.setIfInBounds_toArray, List.set_cons_succ, List.set_cons_zero]
  refine rel_fix rfl rfl ?_ ?_
  · apply Exists.intro
    apply Exists.intro
    refine ⟨fun wr => ?_, fun wr nr hJ => ?_⟩
    · go_simp
      first | exact ⟨rfl, rfl⟩ | rfl
    · exact fldR_any 66 _
  simp only [Act.put, List.setIfInBounds_toArray, List.set_cons_succ, List.set_cons_zero]
  repeat
    refine relAt_det rfl rfl ?_
    apply Exists.intro
    refine ⟨fun wr nr hJ => ?_, ?_⟩
    · obtain ⟨q0, q1, q2, q3, q4⟩ := fiveBlks hJ
      clear hJ
      (go_simp; try go_bits)
      first | rfl | exact ⟨rfl, rfl⟩
    simp only [Act.put, List.setIfInBounds_toArray, List.set_cons_succ, List.set_cons_zero]
  refine relAt_nil (fun w1 hJ hF => ?_)
  clear hF
  go_wp2_with fail
  go_ret
  exact ⟨_, _, rfl, RdF.blk (fs := [⟨68, ⟨#[113]⟩, 0, m4 - 1⟩, fldR 65, fldR 66, ⟨67, ⟨#[98]⟩, 0, m1 - 1⟩, ⟨78, ⟨#[]⟩, -2147483648, 2147483647⟩, ⟨77, ⟨#[]⟩, 1, m2⟩]) (Blk.new _ _ _), (fiveExt.trans hJ).alloc _⟩

set_option maxHeartbeats 4000000 in
set_option maxRecDepth 100000 in
theorem fieldsOf_19 (m0 m1 m2 m3 m4 k d a b c p n m : Int) (w : World) (hb : Small m1) (hq : Small m4) (hl : Small m3) :
    Calls Try.prog 93 #[.agg #[.int .i64 m0, .int .i64 m1, .int .i64 m2, .int .i64 m3, .int .i64 m4], .agg (Ins.cells ⟨19, k, d, a, b, c, p, n, m⟩).toArray] w (FieldsPost [⟨68, ⟨#[113]⟩, 0, m4 - 1⟩] w) := by
  obtain ⟨hb0, hb1⟩ := hb
  obtain ⟨hq0, hq1⟩ := hq
  obtain ⟨hl0, hl1⟩ := hl
  simp only [Ins.cells]
  go_enter Try.func93, Try.ntmps93
  go_wp2_with fail
  go_ret
  refine ⟨_, _, rfl, RdF.blk (fs := [⟨68, ⟨#[113]⟩, 0, m4 - 1⟩]) (Blk.new' _ _ _ _ (by simp)), ?_⟩
  exact ((fiveExt)).alloc _
end Go.Proofs.Ytedabpldigcffaa
