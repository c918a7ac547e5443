/- The coder's operations: reg, Operands, op. -/
import Derived.Test.YtedabpldigcffaaDraw
import Derived.Deep.DeepCutAuto
import Derived.Deep.CutBlock
namespace Go.Proofs.Ytedabpldigcffaa
open Go.RowKit

theorem operands_any (k : Int) (w : World) : Calls Try.prog 110 #[.int .i64 k] w fun e w' => (∃ r : Int, e = .returned (.int .i64 r)) ∧ w = w' := by
  go_enter Try.func110, Try.ntmps110
  go_wp2
  all_goals (go_ret; exact ⟨⟨_, rfl⟩, rfl⟩)

/-- A register's number. -/
theorem reg_any (base bc g gc n c : Nat) (cm : CM) (v : Value) (l : List Ins) (w : World) (h : CdrAt w base bc g gc (n + 1) c cm v l) :
    Calls Try.prog 90 #[.pointer (some ⟨gc, 0, none⟩)] w (Drawn base g n w fun _ => True) := by
  have hc := h.blk.cell
  simp only [cdrCells] at hc
  have hS := h.stm
  have hlt := h.blk.lt
  have hg : g < w.heap.size := hS.lt
  clear h
  go_enter Try.func90, Try.ntmps90
  go_wp2_with fail
  refine (pick_any base g n w.heap.size 9 3 [0, 1, 1, 2, 2, 3, 4, 5, 15] _ (hS.alloc _) (Blk.new _ _ _) (by omega) (by simp)).mono ?_
  rintro e w' ⟨r, rfl, _, hE, hS'⟩
  go_wp2_with fail
  go_ret
  exact ⟨_, rfl, trivial, ((Ext.refl _ _).alloc _).trans hE, hS'⟩

set_option maxHeartbeats 1600000 in
set_option maxRecDepth 100000 in
theorem op_any (base bc g gc n c : Nat) (cm : CM) (v : Value) (l : List Ins) (kd m : Int) (w : World) (h : CdrAt w base bc g gc (n + 150) c cm v l) (hm : m = 6 ∨ m = 8) :
    Calls Try.prog 88 #[.pointer (some ⟨gc, 0, none⟩), .int .i64 kd, .int .i64 m] w fun e w' => ∃ x : Ins, e = .returned (.agg x.cells.toArray) ∧ Ext [g] w w' ∧ Stm w' base g n := by
  have hc := h.cells
  simp only [cdrCells] at hc
  have hS := h.stm
  have hm1 : 1 ≤ m := by omega
  have hm2 : m ≤ 8 := by omega
  clear hm
  go_enter Try.func88, Try.ntmps88
  go_wp2_with fail
  have HC := hd hc
  clear hc
  refine wp_region_rel 21 (JS base g (n+87) _) (Ext [g]) (kinds [(5, sAny), (12, sAny), (18, sAny), (20, sBlk 64 (Ins.cells zI).toArray g (w.heap.size + 1))]) (by kernel_rfl) (by kernel_rfl) JS.less ?_ (JS.start (Stm.less (hS.alloc _) (by omega))) ?_
  · repeat (first | exact Stays.nil | refine Stays.cons sAny.stays ?_ | refine Stays.cons sBool.stays ?_ | refine Stays.cons sNums.stays ?_ | refine Stays.cons sBlk.stays ?_ | refine Stays.cons sIns.stays ?_ | refine Stays.cons sInss.stays ?_ | refine Stays.cons sPtr.stays ?_ | refine Stays.cons sBelow.stays ?_)
  simp only [List.take_succ_cons, List.take_zero, List.drop_succ_cons, List.drop_zero]
  repeat
    refine relAt_det rfl rfl ?_
    apply Exists.intro
    refine ⟨fun wr nr hJ => ?_, ?_⟩
    · have hcw := fun i => (HC.out wr (((Ext.refl _ _).alloc _).trans hJ.1) i)
      clear hJ
      (go_simp; try go_bits)
      first | rfl | exact ⟨rfl, rfl⟩
    simp only [Act.put, List.setIfInBounds_toArray, List.set_cons_succ, List.set_cons_zero]
  refine rel_draw rfl rfl ?_ ?_
  · apply Exists.intro
    apply Exists.intro
    refine ⟨fun wr => ?_, fun wr nr hJ hE => ?_⟩
    · go_simp
      first | exact ⟨rfl, rfl⟩ | rfl
    exact ⟨_, _, (by omega), range_any base g _ _ _ _ hJ (by omega) (by omega)⟩
  intro (x1 : Int)
  simp only [Act.put, List.setIfInBounds_toArray, List.set_cons_succ, List.set_cons_zero]
  repeat
    refine relAt_det rfl rfl ?_
    apply Exists.intro
    refine ⟨fun wr nr hJ => ?_, ?_⟩
    · have hcw := fun i => (HC.out wr (((Ext.refl _ _).alloc _).trans hJ.1) i)
      clear hJ
      (go_simp; try go_bits)
      first | rfl | exact ⟨rfl, rfl⟩
    simp only [Act.put, List.setIfInBounds_toArray, List.set_cons_succ, List.set_cons_zero]
  refine rel_draw rfl rfl ?_ ?_
  · apply Exists.intro
    apply Exists.intro
    refine ⟨fun wr => ?_, fun wr nr hJ hE => ?_⟩
    · go_simp
      first | exact ⟨rfl, rfl⟩ | rfl
    exact ⟨_, _, (by omega), range_any base g _ _ _ _ hJ (by omega) (by omega)⟩
  intro (x2 : Int)
  simp only [Act.put, List.setIfInBounds_toArray, List.set_cons_succ, List.set_cons_zero]
  repeat
    refine relAt_det rfl rfl ?_
    apply Exists.intro
    refine ⟨fun wr nr hJ => ?_, ?_⟩
    · have hcw := fun i => (HC.out wr (((Ext.refl _ _).alloc _).trans hJ.1) i)
      clear hJ
      (go_simp; try go_bits)
      first | rfl | exact ⟨rfl, rfl⟩
    simp only [Act.put, List.setIfInBounds_toArray, List.set_cons_succ, List.set_cons_zero]
  refine rel_draw rfl rfl ?_ ?_
  · apply Exists.intro
    apply Exists.intro
    refine ⟨fun wr => ?_, fun wr nr hJ hE => ?_⟩
    · go_simp
      first | exact ⟨rfl, rfl⟩ | rfl
    exact ⟨_, _, (by omega), next_any base g _ _ _ hJ (by omega)⟩
  intro (x3 : Int)
  simp only [Act.put, List.setIfInBounds_toArray, List.set_cons_succ, List.set_cons_zero]
  repeat
    refine relAt_det rfl rfl ?_
    apply Exists.intro
    refine ⟨fun wr nr hJ => ?_, ?_⟩
    · have hcw := fun i => (HC.out wr (((Ext.refl _ _).alloc _).trans hJ.1) i)
      clear hJ
      (go_simp; try go_bits)
      first | rfl | exact ⟨rfl, rfl⟩
    simp only [Act.put, List.setIfInBounds_toArray, List.set_cons_succ, List.set_cons_zero]
  refine rel_blk 64 (Ins.cells zI).toArray (w.heap.size + 1) rfl (by simp) rfl ?_ ?_
  · intro wr
    go_simp
    try first | rfl | exact ⟨rfl, rfl⟩
  intro (b : Nat)
  simp only [Act.put, List.setIfInBounds_toArray, List.set_cons_succ, List.set_cons_zero]
  refine relAt_nil (fun w1 hJ hF => ?_)
  obtain ⟨hB, hbg, hbn⟩ : (sBlk 64 (Ins.cells zI).toArray g (w.heap.size + 1)).V b w1 := hF 20
  clear hF
  obtain ⟨hJ1, hJ2⟩ := hJ
  have hgb := hS.lt
  have hgb' := hS.base
  have h1 := hd (OpSt.mk hJ1 (hJ2.less (Nat.le_refl (n + 87))) hB hbg (by omega) (by simpa using hbn))
  have hbl := hB.lt
  obtain ⟨hcb, hfb⟩ := hB.both
  simp only [Ins.cells, zI] at hcb
  clear hB hJ1 hJ2
  go_upto_if 31 with (go_at_call 110; refine (operands_any _ _).mono ?_; rintro e w' ⟨⟨r, rfl⟩, rfl⟩)
  have h2 := hd (((((((((h1.out.set 0 kd (by omega)).set 1 x1 (by omega)).set 2 x2 (by omega)).set 3 x3 (by omega)).set 4 0 (by omega)).set 5 0 (by omega)).set 6 0 (by omega)).set 7 0 (by omega)).set 8 0 (by omega))
  have hcw1 := HC.out w1 (((Ext.refl _ _).alloc _).trans h1.out.ext)
  have hgc := h.blk.lt
  clear h1 hcb hfb hbl
  go_cut [] (fun wx => ∃ x, OpSt base g (n + 80) b (w.alloc (.cells (Ins.cells zI).toArray 64)) wx x)
  case first =>
    go_wp2_with fail
    · refine (next_any base g (n + 86) _ _ h2.out.stm (by omega)).mono ?_
      rintro e w2 ⟨r2, rfl, _, hE2, hS2⟩
      have h3 := hd (h2.out.draw hE2 hS2)
      obtain ⟨k0, k1⟩ := h3.out.ins.cells
      have k2 := h3.out.ins.lt
      go_wp2_with fail
      go_meet
      exact ⟨_, (h3.out.set 4 r2 (by omega)).less (by omega)⟩
    · go_meet
      exact ⟨_, h2.out.less (by omega)⟩
  case rest =>
    clear h2 hcw1
    obtain ⟨y, hy⟩ := hcut
    have hcw2 := HC.out _ (((Ext.refl _ _).alloc _).trans hy.ext)
    obtain ⟨k0, k1⟩ := hy.ins.cells
    have h2 := hd hy
    clear hy
    go_upto_if 42 with (go_at_call 110; refine (operands_any _ _).mono ?_; rintro e w' ⟨⟨r, rfl⟩, rfl⟩)
    go_cut [] (fun wx => ∃ x, OpSt base g (n + 70) b (w.alloc (.cells (Ins.cells zI).toArray 64)) wx x)
    case first =>
      go_wp2_with fail
      · refine (next_any base g (n + 79) _ _ h2.out.stm (by omega)).mono ?_
        rintro e w2 ⟨r2, rfl, _, hE2, hS2⟩
        have h3 := hd (h2.out.draw hE2 hS2)
        obtain ⟨k0, k1⟩ := h3.out.ins.cells
        have k2 := h3.out.ins.lt
        go_wp2_with fail
        go_meet
        exact ⟨_, (h3.out.set 5 r2 (by omega)).less (by omega)⟩
      · go_meet
        exact ⟨_, h2.out.less (by omega)⟩
    case rest =>
      clear h2 hcw2 k0 k1
      obtain ⟨z, hz⟩ := hcut
      have hcw3 := HC.out _ (((Ext.refl _ _).alloc _).trans hz.ext)
      obtain ⟨k0, k1⟩ := hz.ins.cells
      have kl := hz.ins.lt
      obtain ⟨r0, r1⟩ := IB.cells (Blk.ext (Blk.new w 64 (Ins.cells zI).toArray) hz.ext (by simp; omega))
      have h2 := hd hz
      clear hz
      simp only [zI] at r0
      go_upto_block 0 with fail
      go_cut [] (fun wx => ∃ x, OpSt base g n b (w.alloc (.cells (Ins.cells zI).toArray 64)) wx x)
      case first =>
        go_wp2_with fail
        · refine wp_region_rel 11 (JS base g (n+37) _) (Ext [g]) (kinds [(4, sAny), (9, sAny)]) (by kernel_rfl) (by kernel_rfl) JS.less ?_ (JS.start (Stm.less h2.out.stm (by omega))) ?_
          · repeat (first | exact Stays.nil | refine Stays.cons sAny.stays ?_ | refine Stays.cons sBool.stays ?_ | refine Stays.cons sNums.stays ?_ | refine Stays.cons sBlk.stays ?_ | refine Stays.cons sIns.stays ?_ | refine Stays.cons sInss.stays ?_ | refine Stays.cons sPtr.stays ?_ | refine Stays.cons sBelow.stays ?_)
          simp only [List.take_succ_cons, List.take_zero, List.drop_succ_cons, List.drop_zero]
          repeat
            refine relAt_det rfl rfl ?_
            apply Exists.intro
            refine ⟨fun wr nr hJ => ?_, ?_⟩
            · have hcw := fun i => (HC.out wr (((Ext.refl _ _).alloc _).trans (h2.out.ext.trans hJ.1)) i)
              clear hJ
              (go_simp; try go_bits)
              first | rfl | exact ⟨rfl, rfl⟩
            simp only [Act.put, List.setIfInBounds_toArray, List.set_cons_succ, List.set_cons_zero]
          refine rel_draw rfl rfl ?_ ?_
          · apply Exists.intro
            apply Exists.intro
            refine ⟨fun wr => ?_, fun wr nr hJ hE => ?_⟩
            · go_simp
              first | exact ⟨rfl, rfl⟩ | rfl
            exact ⟨_, _, (by omega), range_any base g _ _ _ _ hJ (by omega) (by omega)⟩
          intro (y1 : Int)
          simp only [Act.put, List.setIfInBounds_toArray, List.set_cons_succ, List.set_cons_zero]
          repeat
            refine relAt_det rfl rfl ?_
            apply Exists.intro
            refine ⟨fun wr nr hJ => ?_, ?_⟩
            · have hcw := fun i => (HC.out wr (((Ext.refl _ _).alloc _).trans (h2.out.ext.trans hJ.1)) i)
              clear hJ
              (go_simp; try go_bits)
              first | rfl | exact ⟨rfl, rfl⟩
            simp only [Act.put, List.setIfInBounds_toArray, List.set_cons_succ, List.set_cons_zero]
          refine rel_draw rfl rfl ?_ ?_
          · apply Exists.intro
            apply Exists.intro
            refine ⟨fun wr => ?_, fun wr nr hJ hE => ?_⟩
            · go_simp
              first | exact ⟨rfl, rfl⟩ | rfl
            exact ⟨_, _, (by omega), range_any base g _ _ _ _ hJ (by omega) (by omega)⟩
          intro (y2 : Int)
          simp only [Act.put, List.setIfInBounds_toArray, List.set_cons_succ, List.set_cons_zero]
          repeat
            refine relAt_det rfl rfl ?_
            apply Exists.intro
            refine ⟨fun wr nr hJ => ?_, ?_⟩
            · skip
              clear hJ
              (go_simp; try go_bits)
              first | rfl | exact ⟨rfl, rfl⟩
            simp only [Act.put, List.setIfInBounds_toArray, List.set_cons_succ, List.set_cons_zero]
          refine relAt_nil (fun w3 hJ hF => ?_)
          clear hF
          have h3 := hd (h2.out.draw hJ.1 hJ.2)
          clear hJ
          obtain ⟨k0, k1⟩ := h3.out.ins.cells
          have k2 := h3.out.ins.lt
          go_wp2_with fail
          go_meet
          exact ⟨_, ((h3.out.set 7 y1 (by omega)).set 8 y2 (by omega)).less (by omega)⟩
        · refine (range_any base g (n + 69) _ _ _ h2.out.stm (by omega) (by omega)).mono ?_
          rintro e w2 ⟨r2, rfl, _, hE2, hS2⟩
          have h3 := hd (h2.out.draw hE2 hS2)
          obtain ⟨k0, k1⟩ := h3.out.ins.cells
          have k2 := h3.out.ins.lt
          go_wp2_with fail
          go_meet
          exact ⟨_, (h3.out.set 7 r2 (by omega)).less (by omega)⟩
        · refine (pick_any base g (n + 69) _ 5 3 [1, 2, 3, 7, 2147483647] _ (h2.out.stm.alloc _) (Blk.new _ _ _) (by omega) (by simp)).mono ?_
          rintro e w2 ⟨r2, rfl, _, hE2, hS2⟩
          have h3 := hd ((h2.out.alloc _).draw hE2 hS2)
          obtain ⟨k0, k1⟩ := h3.out.ins.cells
          have k2 := h3.out.ins.lt
          go_wp2_with fail
          go_meet
          exact ⟨_, (h3.out.set 7 r2 (by omega)).less (by omega)⟩
        · go_meet
          exact ⟨_, h2.out.less (by omega)⟩
      case rest =>
        clear h2 hcw3 k0 k1 kl r0 r1
        obtain ⟨y, hy⟩ := hcut
        obtain ⟨k0, k1⟩ := hy.ins.cells
        have kl := hy.ins.lt
        have HR : Hd (IB wc w.heap.size zI) := hd (Blk.ext (Blk.new w 64 (Ins.cells zI).toArray) hy.ext (by simp; omega))
        obtain ⟨r0, r1⟩ := IB.cells HR.out
        have h2 := hd hy
        clear hy
        simp only [zI] at r0
        go_wp2_with fail
        have e2 := h2.out.ext
        have s2 := h2.out.stm
        have e3 : Ext [g] w wc := ((Ext.refl [g] w).alloc _).trans e2
        clear h2 e2 k0 k1 r0 r1
        refine bodyPost_ret (results_ins rfl _ _ w.heap.size y rfl (HR.out.all _ _ _ _ _ _ _ _ _)) rfl ⟨y, rfl, ?_, ?_⟩
        · iterate 9 refine Ext.setAt (by right; omega) ?_
          exact e3
        · iterate 9 refine Stm.setAt (by omega) (by omega) ?_
          exact s2
end Go.Proofs.Ytedabpldigcffaa
