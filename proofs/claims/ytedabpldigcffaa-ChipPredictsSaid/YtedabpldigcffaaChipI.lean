/- The small machine's steps. -/
import Derived.Test.YtedabpldigcffaaChipH
namespace Go.Proofs.Ytedabpldigcffaa
open Go.RowKit
set_option linter.unusedSimpArgs false
set_option linter.unusedVariables false
attribute [local irreducible] relAt

/-- Where the small machine stands. -/
structure St (w : World) (c : Nat) (u : CU) (vb vs : Value) (r1 pc cyc m3 : Int) (over : Bool) : Prop where
  idle : Idle w c u vb vs r1 pc cyc over
  code : RdC w (some ⟨u.g1, 0, none⟩) [x0, x1]
  main : w.cell? ⟨u.g3, 3, none⟩ = some (.int .i64 m3)
  fz : w.frozen? ⟨u.g3, 3, none⟩ = false
  c3 : 8 ≤ u.c3
  a1 : u.g1 ≠ c
  a3 : u.g3 ≠ c
  a13 : u.g3 ≠ u.g1
  a34 : u.g3 ≠ u.b4
theorem St.code_at {w : World} {c : Nat} {u : CU} {vb vs : Value} {r1 pc cyc m3 : Int} {over : Bool} (h : St w c u vb vs r1 pc cyc m3 over) {w' : World} (hE : Ext [] w w') (k : Nat) (x : Ins) (hx : [x0, x1][k]? = some x) (j : Nat) (v : Value) (hv : x.cells[j]? = some v) : w'.cell? ⟨u.g1, k * 9 + j, none⟩ = some v := by
  rcases h.code.ext hE (by simp) with h0 | ⟨b, o, he, hc⟩
  · cases h0
  · cases he
    have := hc k x hx j v hv
    rwa [Nat.zero_add] at this
theorem St.ext {T : List Nat} {w w' : World} {c : Nat} {u : CU} {vb vs : Value} {r1 pc cyc m3 : Int} {over : Bool} (h : St w c u vb vs r1 pc cyc m3 over) (hE : Ext T w w') (hc : c ∉ T) (h1 : u.g1 ∉ T) (h3 : u.g3 ∉ T) (h4 : u.b4 ∉ T) : St w' c u vb vs r1 pc cyc m3 over :=
  ⟨h.idle.ext hE hc h4, h.code.ext hE (fun _ ha => by cases ha; exact h1), hE.held h.main h3, (hE.frozen (p := ⟨u.g3, 3, none⟩) (World.block_lt_of_cell? w _ h.main) h3).trans h.fz, h.c3, h.a1, h.a3, h.a13, h.a34⟩
theorem Ext.all9 {a w : World} {b : Nat} (h : Ext [] a w) (hb : a.heap.size ≤ b) (y0 y1 y2 y3 y4 y5 y6 y7 y8 : Value) : Ext [] a (((((((((w.setCell ⟨b, 0, none⟩ y0).setCell ⟨b, 1, none⟩ y1).setCell ⟨b, 2, none⟩ y2).setCell ⟨b, 3, none⟩ y3).setCell ⟨b, 4, none⟩ y4).setCell ⟨b, 5, none⟩ y5).setCell ⟨b, 6, none⟩ y6).setCell ⟨b, 7, none⟩ y7).setCell ⟨b, 8, none⟩ y8) :=
  Ext.setAt (.inr hb) (Ext.setAt (.inr hb) (Ext.setAt (.inr hb) (Ext.setAt (.inr hb) (Ext.setAt (.inr hb) (Ext.setAt (.inr hb) (Ext.setAt (.inr hb) (Ext.setAt (.inr hb) (Ext.setAt (.inr hb) (h)))))))))
def sZero (B : Nat) : Spec := ⟨Nat, 0, fun b => .pointer (some ⟨b, 0, none⟩), fun b w => Blk w b 64 #[.int .i64 0, .int .i64 0, .int .i64 0, .int .i64 0, .int .i64 0, .int .i64 0, .int .i64 0, .int .i64 0, .int .i64 0] ∧ B ≤ b⟩
theorem sZero.stays {B : Nat} : ∀ y w w', RH [] w w' → (sZero B).V y w → (sZero B).V y w' := fun _ _ _ hR h => ⟨Blk.ext h.1 hR.1 List.not_mem_nil, h.2⟩

set_option maxHeartbeats 2000000 in
set_option maxRecDepth 100000 in
theorem step_1 {w : World} {c : Nat} {u : CU} {vb vs : Value} {m3 : Int} (h : St w c u vb vs 0 0 0 m3 false) :
    Calls Try.prog 86 #[.pointer (some ⟨c, 0, none⟩)] w fun e w' => e = .returned (.bool true) ∧ Ext [c, u.g3] w w' ∧ St w' c u vb vs 5 1 1 m3 false := by
  have HH := hd h
  have q168 := h.idle.chip.at 168 (.bool false) rfl
  have q169 := h.idle.chip.at 169 (.bool false) rfl
  have ql := h.idle.chip.lt
  clear h
  go_enter Try.func86, Try.ntmps86
  go_wp2_with fail
  clear q168 q169 ql
  refine wp_region_rel 11 (JH [] _) (RH []) (kinds [(10, sZero w.heap.size)]) (by kernel_rfl) (by kernel_rfl) JH.less ?_ JH.start ?_
  · exact Stays.cons sZero.stays Stays.nil
  simp only [List.take_succ_cons, List.take_zero, List.drop_succ_cons, List.drop_zero]
  repeat
    refine relAt_det rfl rfl ?_
    apply Exists.intro
    refine ⟨fun wr nr hJ => ?_, ?_⟩
    · have hC := HH.out.idle.chip.ext hJ.1 (by simp); have q5 := hC.at 5 (.slice (some ⟨u.g1, 0, none⟩) 2 u.c1) rfl; have q164 := hC.at 164 (.int .i64 0) rfl; have ql := hC.lt; have k0 := HH.out.code_at hJ.1 0 x0 rfl 0 _ rfl; have k1 := HH.out.code_at hJ.1 0 x0 rfl 1 _ rfl; have k2 := HH.out.code_at hJ.1 0 x0 rfl 2 _ rfl; have k3 := HH.out.code_at hJ.1 0 x0 rfl 3 _ rfl; have k4 := HH.out.code_at hJ.1 0 x0 rfl 4 _ rfl; have k5 := HH.out.code_at hJ.1 0 x0 rfl 5 _ rfl; have k6 := HH.out.code_at hJ.1 0 x0 rfl 6 _ rfl; have k7 := HH.out.code_at hJ.1 0 x0 rfl 7 _ rfl; have k8 := HH.out.code_at hJ.1 0 x0 rfl 8 _ rfl; simp only [x0, x1, Nat.reduceMul, Nat.reduceAdd, Nat.zero_mul, Nat.zero_add, Nat.add_zero] at k0 k1 k2 k3 k4 k5 k6 k7 k8; have kl := World.block_lt_of_cell? wr _ k0; simp only at kl; clear hC
      clear hJ
      (go_simp; try go_bits)
      first | rfl | exact ⟨rfl, rfl⟩
    simp only [Act.put, List.setIfInBounds_toArray, List.set_cons_succ, List.set_cons_zero]
  refine rel_new (sZero w.heap.size) rfl rfl ?_ ?_
  · intro wr nr hJ hf
    refine ⟨wr.heap.size, .cells #[.int .i64 0, .int .i64 0, .int .i64 0, .int .i64 0, .int .i64 0, .int .i64 0, .int .i64 0, .int .i64 0, .int .i64 0] 64, ?_, Blk.new _ _ _, hJ.1.size⟩
    go_simp
    rfl
  intro (bx : Nat)
  simp only [Act.put, List.setIfInBounds_toArray, List.set_cons_succ, List.set_cons_zero]
  dsimp only [sZero]
  refine relAt_nil (fun w1 hJ hF => ?_)
  have HZ : Hd (Blk w1 bx 64 #[.int .i64 0, .int .i64 0, .int .i64 0, .int .i64 0, .int .i64 0, .int .i64 0, .int .i64 0, .int .i64 0, .int .i64 0]) := hd (hF 10).1
  have hbx : w.heap.size ≤ bx := (hF 10).2
  have HE1 := hd hJ.1
  have qz := HZ.out.cell
  have qzf := HZ.out.frozen
  have qzl := HZ.out.lt
  clear hF hJ
  go_upto_region 4 with fail
  clear qz qzf qzl
  have HX := hd (HZ.out.all9 (.int .i64 1) (.int .i64 0) (.int .i64 1) (.int .i64 0) (.int .i64 0) (.int .i64 0) (.int .i64 0) (.int .i64 5) (.int .i64 0))
  have HE2 := hd (HE1.out.all9 hbx (.int .i64 1) (.int .i64 0) (.int .i64 1) (.int .i64 0) (.int .i64 0) (.int .i64 0) (.int .i64 0) (.int .i64 5) (.int .i64 0))
  generalize (((((((((w1.setCell ⟨bx, 0, none⟩ (.int .i64 1)).setCell ⟨bx, 1, none⟩ (.int .i64 0)).setCell ⟨bx, 2, none⟩ (.int .i64 1)).setCell ⟨bx, 3, none⟩ (.int .i64 0)).setCell ⟨bx, 4, none⟩ (.int .i64 0)).setCell ⟨bx, 5, none⟩ (.int .i64 0)).setCell ⟨bx, 6, none⟩ (.int .i64 0)).setCell ⟨bx, 7, none⟩ (.int .i64 5)).setCell ⟨bx, 8, none⟩ (.int .i64 0)) = w2 at HX HE2 ⊢
  clear HZ HE1
  refine wp_region_rel 10 (JE _) (Ext []) (kinds []) (by kernel_rfl) (by kernel_rfl) JE.less ?_ JE.start ?_
  · repeat (first | exact Stays.nil | refine Stays.cons sFix.stays ?_)
  simp only [List.take_succ_cons, List.take_zero, List.drop_succ_cons, List.drop_zero]
  repeat
    refine relAt_det rfl rfl ?_
    apply Exists.intro
    refine ⟨fun wr nr hJ => ?_, ?_⟩
    · have qx := HX.out.ext hJ (by simp); have qxc := qx.cell; have qxl := qx.lt; clear qx
      clear hJ
      (go_simp; try go_bits)
      first | rfl | exact ⟨rfl, rfl⟩
    simp only [Act.put, List.setIfInBounds_toArray, List.set_cons_succ, List.set_cons_zero]
  iterate 6
    refine relAt_skip rfl ?_
    simp only [Act.put, List.setIfInBounds_toArray, List.set_cons_succ, List.set_cons_zero]
  refine relAt_nil (fun w3 hJ hF => ?_)
  have HX3 := hd (HX.out.ext hJ (by simp))
  have HE3 := hd (HE2.out.trans hJ)
  have qxc := HX3.out.cell
  have qxl := HX3.out.lt
  clear hF hJ
  go_wp2_with fail
  refine (hazard_num (HH.out.idle.ext HE3.out (by simp) (by simp))).mono ?_
  rintro e w4 ⟨rfl, hE4⟩
  have HX4 := hd (HX3.out.ext hE4 (by simp))
  have HE4 := hd (HE3.out.trans hE4)
  have HS4 := hd (HH.out.ext HE4.out (by simp) (by simp) (by simp) (by simp))
  have qxc := HX4.out.cell
  have qxl := HX4.out.lt
  clear hE4
  go_wp2_with fail
  refine (effect_num HS4.out.idle.chip).mono ?_
  rintro e w5 ⟨rfl, hE5, hC5⟩
  have HC5 := hd hC5
  have HX5 := hd (HX4.out.ext hE5 (by simp; have := HH.out.idle.chip.lt; omega))
  have HE5 := hd ((HE4.out.nil (S := [c])).trans hE5)
  have HM5 := hd (hE5.held HS4.out.main (by simpa using HH.out.a3))
  have qxc := HX5.out.cell
  have qxl := HX5.out.lt
  clear hE5 hC5
  go_wp2_with fail
  refine wp_region_rel 10 (JE _) (Ext []) (kinds [(9, sFix (.int .i64 1))]) (by kernel_rfl) (by kernel_rfl) JE.less ?_ JE.start ?_
  · repeat (first | exact Stays.nil | refine Stays.cons sFix.stays ?_)
  simp only [List.take_succ_cons, List.take_zero, List.drop_succ_cons, List.drop_zero]
  repeat
    refine relAt_det rfl rfl ?_
    apply Exists.intro
    refine ⟨fun wr nr hJ => ?_, ?_⟩
    · have hC := HC5.out.ext hJ (by simp); have q165 := hC.at 165 (.int .i64 0) rfl; have m0 := hC.at 0 (.int .i64 8) rfl; have m1 := hC.at 1 (.int .i64 2) rfl; have m2 := hC.at 2 (.int .i64 256) rfl; have m3' := hC.at 3 (.int .i64 2) rfl; have m4 := hC.at 4 (.int .i64 1) rfl; have ql := hC.lt; have qx := HX5.out.ext hJ (by simp); have qxc := qx.cell; have qxl := qx.lt; clear qx hC
      clear hJ
      (go_simp; try go_bits)
      first | rfl | exact ⟨rfl, rfl⟩
    simp only [Act.put, List.setIfInBounds_toArray, List.set_cons_succ, List.set_cons_zero]
  refine rel_fix rfl rfl ?_ ?_
  · apply Exists.intro
    apply Exists.intro
    refine ⟨fun wr => ?_, fun wr nr hJ => ?_⟩
    · go_simp
      first | exact ⟨rfl, rfl⟩ | rfl
    · exact price_num _
  simp only [Act.put, List.setIfInBounds_toArray, List.set_cons_succ, List.set_cons_zero]
  refine relAt_nil (fun w6 hJ hF => ?_)
  have HC6 := hd (HC5.out.ext hJ (by simp))
  have HX6 := hd (HX5.out.ext hJ (by simp))
  have HE6 := hd (HE5.out.trans hJ.nil)
  have HM6 := hd (hJ.held HM5.out (by simp))
  have q165 := HC6.out.at 165 (.int .i64 0) rfl
  have q164 := HC6.out.at 164 (.int .i64 0) rfl
  have qf := Blk.frozen HC6.out
  have ql := HC6.out.lt
  have qxc := HX6.out.cell
  have qxl := HX6.out.lt
  have hbc : bx ≠ c := by have := HH.out.idle.chip.lt; omega
  clear hF hJ
  go_wp2_with fail
  refine (next_1 (cyc := 1) (Blk.set_' HC6.out 165 _ _ rfl)).mono ?_
  rintro e w7 ⟨rfl, hE7, hC7⟩
  have HE7c := hd ((HE6.out.setCell (.inl (by simp)) _).trans hE7)
  have HE7 := hd (HE7c.out.mono (T := [c, u.g3]) (by simp))
  have HC7 := hd hC7
  clear hE7 hC7
  go_wp2_with fail
  go_ret
  have hq4 : u.b4 ∉ [c, u.g3] := by simp; exact ⟨HH.out.idle.apart, fun e => HH.out.a34 e.symm⟩
  have hg1 : u.g1 ∉ [c, u.g3] := by simp; exact ⟨HH.out.a1, fun e => HH.out.a13 e.symm⟩
  exact ⟨rfl, HE7.out, ⟨HC7.out, HH.out.idle.queue.ext HE7.out hq4, HH.out.idle.apart⟩, HH.out.code.ext HE7.out (fun _ ha => by cases ha; exact hg1), HE7c.out.held HH.out.main (by simpa using HH.out.a3), (HE7c.out.frozen (p := ⟨u.g3, 3, none⟩) (World.block_lt_of_cell? w _ HH.out.main) (by simpa using HH.out.a3)).trans HH.out.fz, HH.out.c3, HH.out.a1, HH.out.a3, HH.out.a13, HH.out.a34⟩


set_option maxHeartbeats 2000000 in
set_option maxRecDepth 100000 in
theorem step_2 {w : World} {c : Nat} {u : CU} {vb vs : Value} {m3 : Int} (h : St w c u vb vs 5 1 1 m3 false) :
    Calls Try.prog 86 #[.pointer (some ⟨c, 0, none⟩)] w fun e w' => e = .returned (.bool true) ∧ Ext [c, u.g3] w w' ∧ ChipAt w' c u vb vs 5 2 21 true ∧ w'.cell? ⟨u.g3, 3, none⟩ = some (.int .i64 5) := by
  have HH := hd h
  have q168 := h.idle.chip.at 168 (.bool false) rfl
  have q169 := h.idle.chip.at 169 (.bool false) rfl
  have ql := h.idle.chip.lt
  clear h
  go_enter Try.func86, Try.ntmps86
  go_wp2_with fail
  clear q168 q169 ql
  refine wp_region_rel 11 (JH [] _) (RH []) (kinds [(10, sZero w.heap.size)]) (by kernel_rfl) (by kernel_rfl) JH.less ?_ JH.start ?_
  · exact Stays.cons sZero.stays Stays.nil
  simp only [List.take_succ_cons, List.take_zero, List.drop_succ_cons, List.drop_zero]
  repeat
    refine relAt_det rfl rfl ?_
    apply Exists.intro
    refine ⟨fun wr nr hJ => ?_, ?_⟩
    · have hC := HH.out.idle.chip.ext hJ.1 (by simp); have q5 := hC.at 5 (.slice (some ⟨u.g1, 0, none⟩) 2 u.c1) rfl; have q164 := hC.at 164 (.int .i64 1) rfl; have ql := hC.lt; have k0 := HH.out.code_at hJ.1 1 x1 rfl 0 _ rfl; have k1 := HH.out.code_at hJ.1 1 x1 rfl 1 _ rfl; have k2 := HH.out.code_at hJ.1 1 x1 rfl 2 _ rfl; have k3 := HH.out.code_at hJ.1 1 x1 rfl 3 _ rfl; have k4 := HH.out.code_at hJ.1 1 x1 rfl 4 _ rfl; have k5 := HH.out.code_at hJ.1 1 x1 rfl 5 _ rfl; have k6 := HH.out.code_at hJ.1 1 x1 rfl 6 _ rfl; have k7 := HH.out.code_at hJ.1 1 x1 rfl 7 _ rfl; have k8 := HH.out.code_at hJ.1 1 x1 rfl 8 _ rfl; simp only [x0, x1, Nat.reduceMul, Nat.reduceAdd, Nat.zero_mul, Nat.zero_add, Nat.add_zero] at k0 k1 k2 k3 k4 k5 k6 k7 k8; have kl := World.block_lt_of_cell? wr _ k0; simp only at kl; clear hC
      clear hJ
      (go_simp; try go_bits)
      first | rfl | exact ⟨rfl, rfl⟩
    simp only [Act.put, List.setIfInBounds_toArray, List.set_cons_succ, List.set_cons_zero]
  refine rel_new (sZero w.heap.size) rfl rfl ?_ ?_
  · intro wr nr hJ hf
    refine ⟨wr.heap.size, .cells #[.int .i64 0, .int .i64 0, .int .i64 0, .int .i64 0, .int .i64 0, .int .i64 0, .int .i64 0, .int .i64 0, .int .i64 0] 64, ?_, Blk.new _ _ _, hJ.1.size⟩
    go_simp
    rfl
  intro (bx : Nat)
  simp only [Act.put, List.setIfInBounds_toArray, List.set_cons_succ, List.set_cons_zero]
  dsimp only [sZero]
  refine relAt_nil (fun w1 hJ hF => ?_)
  have HZ : Hd (Blk w1 bx 64 #[.int .i64 0, .int .i64 0, .int .i64 0, .int .i64 0, .int .i64 0, .int .i64 0, .int .i64 0, .int .i64 0, .int .i64 0]) := hd (hF 10).1
  have hbx : w.heap.size ≤ bx := (hF 10).2
  have HE1 := hd hJ.1
  have qz := HZ.out.cell
  have qzf := HZ.out.frozen
  have qzl := HZ.out.lt
  clear hF hJ
  go_upto_region 4 with fail
  clear qz qzf qzl
  have HX := hd (HZ.out.all9 (.int .i64 6) (.int .i64 0) (.int .i64 0) (.int .i64 0) (.int .i64 1) (.int .i64 0) (.int .i64 0) (.int .i64 3) (.int .i64 0))
  have HE2 := hd (HE1.out.all9 hbx (.int .i64 6) (.int .i64 0) (.int .i64 0) (.int .i64 0) (.int .i64 1) (.int .i64 0) (.int .i64 0) (.int .i64 3) (.int .i64 0))
  generalize (((((((((w1.setCell ⟨bx, 0, none⟩ (.int .i64 6)).setCell ⟨bx, 1, none⟩ (.int .i64 0)).setCell ⟨bx, 2, none⟩ (.int .i64 0)).setCell ⟨bx, 3, none⟩ (.int .i64 0)).setCell ⟨bx, 4, none⟩ (.int .i64 1)).setCell ⟨bx, 5, none⟩ (.int .i64 0)).setCell ⟨bx, 6, none⟩ (.int .i64 0)).setCell ⟨bx, 7, none⟩ (.int .i64 3)).setCell ⟨bx, 8, none⟩ (.int .i64 0)) = w2 at HX HE2 ⊢
  clear HZ HE1
  refine wp_region_rel 10 (JE _) (Ext []) (kinds []) (by kernel_rfl) (by kernel_rfl) JE.less ?_ JE.start ?_
  · repeat (first | exact Stays.nil | refine Stays.cons sFix.stays ?_)
  simp only [List.take_succ_cons, List.take_zero, List.drop_succ_cons, List.drop_zero]
  repeat
    refine relAt_det rfl rfl ?_
    apply Exists.intro
    refine ⟨fun wr nr hJ => ?_, ?_⟩
    · have qx := HX.out.ext hJ (by simp); have qxc := qx.cell; have qxl := qx.lt; clear qx
      clear hJ
      (go_simp; try go_bits)
      first | rfl | exact ⟨rfl, rfl⟩
    simp only [Act.put, List.setIfInBounds_toArray, List.set_cons_succ, List.set_cons_zero]
  iterate 6
    refine relAt_skip rfl ?_
    simp only [Act.put, List.setIfInBounds_toArray, List.set_cons_succ, List.set_cons_zero]
  refine relAt_nil (fun w3 hJ hF => ?_)
  have HX3 := hd (HX.out.ext hJ (by simp))
  have HE3 := hd (HE2.out.trans hJ)
  have qxc := HX3.out.cell
  have qxl := HX3.out.lt
  clear hF hJ
  go_wp2_with fail
  refine (hazard_stm (HH.out.idle.ext HE3.out (by simp) (by simp))).mono ?_
  rintro e w4 ⟨rfl, hE4⟩
  have HX4 := hd (HX3.out.ext hE4 (by simp))
  have HE4 := hd (HE3.out.trans hE4)
  have HS4 := hd (HH.out.ext HE4.out (by simp) (by simp) (by simp) (by simp))
  have qxc := HX4.out.cell
  have qxl := HX4.out.lt
  clear hE4
  go_wp2_with fail
  refine (effect_stm HS4.out.idle.chip HS4.out.c3 HS4.out.main HS4.out.fz).mono ?_
  rintro e w5 ⟨rfl, hE5, hM5⟩
  have HC5 := hd (HS4.out.idle.chip.ext hE5 (by simpa using fun e => HH.out.a3 e.symm))
  have HX5 := hd (HX4.out.ext hE5 (by simp; have := World.block_lt_of_cell? w _ HH.out.main; simp only at this; omega))
  have HE5 := hd (((HE4.out.nil (S := [c, u.g3])).trans (hE5.mono (by simp))))
  have HM5 := hd hM5
  have qxc := HX5.out.cell
  have qxl := HX5.out.lt
  clear hE5 hM5
  go_wp2_with fail
  refine wp_region_rel 10 (JE _) (Ext []) (kinds [(9, sFix (.int .i64 20))]) (by kernel_rfl) (by kernel_rfl) JE.less ?_ JE.start ?_
  · repeat (first | exact Stays.nil | refine Stays.cons sFix.stays ?_)
  simp only [List.take_succ_cons, List.take_zero, List.drop_succ_cons, List.drop_zero]
  repeat
    refine relAt_det rfl rfl ?_
    apply Exists.intro
    refine ⟨fun wr nr hJ => ?_, ?_⟩
    · have hC := HC5.out.ext hJ (by simp); have q165 := hC.at 165 (.int .i64 1) rfl; have m0 := hC.at 0 (.int .i64 8) rfl; have m1 := hC.at 1 (.int .i64 2) rfl; have m2 := hC.at 2 (.int .i64 256) rfl; have m3' := hC.at 3 (.int .i64 2) rfl; have m4 := hC.at 4 (.int .i64 1) rfl; have ql := hC.lt; have qx := HX5.out.ext hJ (by simp); have qxc := qx.cell; have qxl := qx.lt; clear qx hC
      clear hJ
      (go_simp; try go_bits)
      first | rfl | exact ⟨rfl, rfl⟩
    simp only [Act.put, List.setIfInBounds_toArray, List.set_cons_succ, List.set_cons_zero]
  refine rel_fix rfl rfl ?_ ?_
  · apply Exists.intro
    apply Exists.intro
    refine ⟨fun wr => ?_, fun wr nr hJ => ?_⟩
    · go_simp
      first | exact ⟨rfl, rfl⟩ | rfl
    · exact price_stm _
  simp only [Act.put, List.setIfInBounds_toArray, List.set_cons_succ, List.set_cons_zero]
  refine relAt_nil (fun w6 hJ hF => ?_)
  have HC6 := hd (HC5.out.ext hJ (by simp))
  have HX6 := hd (HX5.out.ext hJ (by simp))
  have HE6 := hd (HE5.out.trans hJ.nil)
  have HM6 := hd (hJ.held HM5.out (by simp))
  have q165 := HC6.out.at 165 (.int .i64 1) rfl
  have q164 := HC6.out.at 164 (.int .i64 1) rfl
  have qf := Blk.frozen HC6.out
  have ql := HC6.out.lt
  have qxc := HX6.out.cell
  have qxl := HX6.out.lt
  have hbc : bx ≠ c := by have := HH.out.idle.chip.lt; omega
  clear hF hJ
  go_wp2_with fail
  refine (next_2 (cyc := 21) ⟨Blk.set_' HC6.out 165 _ _ rfl, (HH.out.idle.queue.ext (HE6.out.setCell (.inl (by simp)) _) (by simp; exact ⟨HH.out.idle.apart, fun e => HH.out.a34 e.symm⟩)), HH.out.idle.apart⟩).mono ?_
  rintro e w7 ⟨rfl, hE7, hC7⟩
  have HE7 := hd ((HE6.out.setCell (.inl (by simp)) _).trans (hE7.mono (by simp)))
  have HC7 := hd hC7
  have HM7 := hd (hE7.held (((Ext.refl [c] w6).setCell (.inl (by simp)) (.int .i64 21)).held (p := ⟨u.g3, 3, none⟩) HM6.out (by simpa using HH.out.a3)) (by simpa using HH.out.a3))
  clear hE7 hC7
  go_wp2_with fail
  go_ret
  exact ⟨rfl, HE7.out, HC7.out, HM7.out⟩


end Go.Proofs.Ytedabpldigcffaa
