/- The coder's operations: reg, Operands, op. -/
import Derived.Test.YtedabpldigcffaaDraw
import Derived.Deep.DeepCutAuto
import Derived.Deep.CutBlock
import Derived.Test.YtedabpldigcffaaSlices
namespace Go.Proofs.Ytedabpldigcffaa
open Go.RowKit

theorem operands_any (k : Int) (w : World) : Calls Try.prog 110 #[.int .i64 k] w fun e w' => (∃ r : Int, e = .returned (.int .i64 r)) ∧ w = w' := by
  go_enter Try.func110, Try.ntmps110
  go_wp2
  all_goals (go_ret; exact ⟨⟨_, rfl⟩, rfl⟩)

/-- A register's number. -/
theorem reg_any (base bc g gc n c : Nat) (cm : CM) (v : Value) (l : List Ins) (w : World) (h : CdrAt w base bc g gc (n + 1) c cm v l) :
    Calls Try.prog 90 #[.pointer (some ⟨gc, 0, none⟩)] w (Drawn base g n w fun _ => True) := by
  have hc := h.blk.cell
  simp only [cdrCells] at hc
  have hS := h.stm
  have hlt := h.blk.lt
  have hg : g < w.heap.size := hS.lt
  clear h
  go_enter Try.func90, Try.ntmps90
  go_wp2_with fail
  refine (pick_any base g n w.heap.size 9 3 [0, 1, 1, 2, 2, 3, 4, 5, 15] _ (hS.alloc _) (Blk.new _ _ _) (by omega) (by simp)).mono ?_
  rintro e w' ⟨r, rfl, _, hE, hS'⟩
  go_wp2_with fail
  go_ret
  exact ⟨_, rfl, trivial, ((Ext.refl _ _).alloc _).trans hE, hS'⟩

set_option maxHeartbeats 1600000 in
set_option maxRecDepth 100000 in
theorem op_any (base bc g gc n c : Nat) (cm : CM) (v : Value) (l : List Ins) (kd m : Int) (w : World) (h : CdrAt w base bc g gc (n + 150) c cm v l) (hm : m = 6 ∨ m = 8) :
    Calls Try.prog 88 #[.pointer (some ⟨gc, 0, none⟩), .int .i64 kd, .int .i64 m] w fun e w' => ∃ x : Ins, e = .returned (.agg x.cells.toArray) ∧ Ext [g] w w' ∧ Stm w' base g n := by
  have hc := h.cells
  simp only [cdrCells] at hc
  have hS := h.stm
  have hm1 : 1 ≤ m := by omega
  have hm2 : m ≤ 8 := by omega
  clear hm
  go_enter Try.func88, Try.ntmps88
  go_wp2_with fail
  have HC := hd hc
  clear hc
  refine wp_region_rel 21 (JS base g (n+87) _) (Ext [g]) (kinds [(5, sAny), (12, sAny), (18, sAny), (20, sBlk 64 (Ins.cells zI).toArray g (w.heap.size + 1))]) (by kernel_rfl) (by kernel_rfl) JS.less ?_ (JS.start (Stm.less (hS.alloc _) (by omega))) ?_
  · repeat (first | exact Stays.nil | refine Stays.cons sAny.stays ?_ | refine Stays.cons sBool.stays ?_ | refine Stays.cons sNums.stays ?_ | refine Stays.cons sBlk.stays ?_ | refine Stays.cons sIns.stays ?_ | refine Stays.cons sInss.stays ?_ | refine Stays.cons sPtr.stays ?_ | refine Stays.cons sBelow.stays ?_)
  simp only [List.take_succ_cons, List.take_zero, List.drop_succ_cons, List.drop_zero]
  repeat
    refine relAt_det rfl rfl ?_
    apply Exists.intro
    refine ⟨fun wr nr hJ => ?_, ?_⟩
    · have hcw := fun i => (HC.out wr (((Ext.refl _ _).alloc _).trans hJ.1) i)
      clear hJ
      (go_simp; try go_bits)
      first | rfl | exact ⟨rfl, rfl⟩
    simp only [Act.put, List.setIfInBounds_toArray, List.set_cons_succ, List.set_cons_zero]
  refine rel_draw rfl rfl ?_ ?_
  · apply Exists.intro
    apply Exists.intro
    refine ⟨fun wr => ?_, fun wr nr hJ hE => ?_⟩
    · go_simp
      first | exact ⟨rfl, rfl⟩ | rfl
    exact ⟨_, _, (by omega), range_any base g _ _ _ _ hJ (by omega) (by omega)⟩
  intro (x1 : Int)
  simp only [Act.put, List.setIfInBounds_toArray, List.set_cons_succ, List.set_cons_zero]
  repeat
    refine relAt_det rfl rfl ?_
    apply Exists.intro
    refine ⟨fun wr nr hJ => ?_, ?_⟩
    · have hcw := fun i => (HC.out wr (((Ext.refl _ _).alloc _).trans hJ.1) i)
      clear hJ
      (go_simp; try go_bits)
      first | rfl | exact ⟨rfl, rfl⟩
    simp only [Act.put, List.setIfInBounds_toArray, List.set_cons_succ, List.set_cons_zero]
  refine rel_draw rfl rfl ?_ ?_
  · apply Exists.intro
    apply Exists.intro
    refine ⟨fun wr => ?_, fun wr nr hJ hE => ?_⟩
    · go_simp
      first | exact ⟨rfl, rfl⟩ | rfl
    exact ⟨_, _, (by omega), range_any base g _ _ _ _ hJ (by omega) (by omega)⟩
  intro (x2 : Int)
  simp only [Act.put, List.setIfInBounds_toArray, List.set_cons_succ, List.set_cons_zero]
  repeat
    refine relAt_det rfl rfl ?_
    apply Exists.intro
    refine ⟨fun wr nr hJ => ?_, ?_⟩
    · have hcw := fun i => (HC.out wr (((Ext.refl _ _).alloc _).trans hJ.1) i)
      clear hJ
      (go_simp; try go_bits)
      first | rfl | exact ⟨rfl, rfl⟩
    simp only [Act.put, List.setIfInBounds_toArray, List.set_cons_succ, List.set_cons_zero]
  refine rel_draw rfl rfl ?_ ?_
  · apply Exists.intro
    apply Exists.intro
    refine ⟨fun wr => ?_, fun wr nr hJ hE => ?_⟩
    · go_simp
      first | exact ⟨rfl, rfl⟩ | rfl
    exact ⟨_, _, (by omega), next_any base g _ _ _ hJ (by omega)⟩
  intro (x3 : Int)
  simp only [Act.put, List.setIfInBounds_toArray, List.set_cons_succ, List.set_cons_zero]
  repeat
    refine relAt_det rfl rfl ?_
    apply Exists.intro
    refine ⟨fun wr nr hJ => ?_, ?_⟩
    · have hcw := fun i => (HC.out wr (((Ext.refl _ _).alloc _).trans hJ.1) i)
      clear hJ
      (go_simp; try go_bits)
      first | rfl | exact ⟨rfl, rfl⟩
    simp only [Act.put, List.setIfInBounds_toArray, List.set_cons_succ, List.set_cons_zero]
  refine rel_blk 64 (Ins.cells zI).toArray (w.heap.size + 1) rfl (by simp) rfl ?_ ?_
  · intro wr
    go_simp
    try first | rfl | exact ⟨rfl, rfl⟩
  intro (b : Nat)
  simp only [Act.put, List.setIfInBounds_toArray, List.set_cons_succ, List.set_cons_zero]
  refine relAt_nil (fun w1 hJ hF => ?_)
  obtain ⟨hB, hbg, hbn⟩ : (sBlk 64 (Ins.cells zI).toArray g (w.heap.size + 1)).V b w1 := hF 20
  clear hF
  obtain ⟨hJ1, hJ2⟩ := hJ
  have hgb := hS.lt
  have hgb' := hS.base
  have h1 := hd (OpSt.mk hJ1 (hJ2.less (Nat.le_refl (n + 87))) hB hbg (by omega) (by simpa using hbn))
  have hbl := hB.lt
  obtain ⟨hcb, hfb⟩ := hB.both
  simp only [Ins.cells, zI] at hcb
  clear hB hJ1 hJ2
  go_upto_if 31 with (go_at_call 110; refine (operands_any _ _).mono ?_; rintro e w' ⟨⟨r, rfl⟩, rfl⟩)
  have h2 := hd (((((((((h1.out.set 0 kd (by omega)).set 1 x1 (by omega)).set 2 x2 (by omega)).set 3 x3 (by omega)).set 4 0 (by omega)).set 5 0 (by omega)).set 6 0 (by omega)).set 7 0 (by omega)).set 8 0 (by omega))
  have hcw1 := HC.out w1 (((Ext.refl _ _).alloc _).trans h1.out.ext)
  have hgc := h.blk.lt
  clear h1 hcb hfb hbl
  go_cut [] (fun wx => ∃ x, OpSt base g (n + 80) b (w.alloc (.cells (Ins.cells zI).toArray 64)) wx x)
  case first =>
    go_wp2_with fail
    · refine (next_any base g (n + 86) _ _ h2.out.stm (by omega)).mono ?_
      rintro e w2 ⟨r2, rfl, _, hE2, hS2⟩
      have h3 := hd (h2.out.draw hE2 hS2)
      obtain ⟨k0, k1⟩ := h3.out.ins.cells
      have k2 := h3.out.ins.lt
      go_wp2_with fail
      go_meet
      exact ⟨_, (h3.out.set 4 r2 (by omega)).less (by omega)⟩
    · go_meet
      exact ⟨_, h2.out.less (by omega)⟩
  case rest =>
    clear h2 hcw1
    obtain ⟨y, hy⟩ := hcut
    have hcw2 := HC.out _ (((Ext.refl _ _).alloc _).trans hy.ext)
    obtain ⟨k0, k1⟩ := hy.ins.cells
    have h2 := hd hy
    clear hy
    go_upto_if 42 with (go_at_call 110; refine (operands_any _ _).mono ?_; rintro e w' ⟨⟨r, rfl⟩, rfl⟩)
    go_cut [] (fun wx => ∃ x, OpSt base g (n + 70) b (w.alloc (.cells (Ins.cells zI).toArray 64)) wx x)
    case first =>
      go_wp2_with fail
      · refine (next_any base g (n + 79) _ _ h2.out.stm (by omega)).mono ?_
        rintro e w2 ⟨r2, rfl, _, hE2, hS2⟩
        have h3 := hd (h2.out.draw hE2 hS2)
        obtain ⟨k0, k1⟩ := h3.out.ins.cells
        have k2 := h3.out.ins.lt
        go_wp2_with fail
        go_meet
        exact ⟨_, (h3.out.set 5 r2 (by omega)).less (by omega)⟩
      · go_meet
        exact ⟨_, h2.out.less (by omega)⟩
    case rest =>
      clear h2 hcw2 k0 k1
      obtain ⟨z, hz⟩ := hcut
      have hcw3 := HC.out _ (((Ext.refl _ _).alloc _).trans hz.ext)
      obtain ⟨k0, k1⟩ := hz.ins.cells
      have kl := hz.ins.lt
      obtain ⟨r0, r1⟩ := IB.cells (Blk.ext (Blk.new w 64 (Ins.cells zI).toArray) hz.ext (by simp; omega))
      have h2 := hd hz
      clear hz
      simp only [zI] at r0
      go_upto_block 0 with fail
      go_cut [] (fun wx => ∃ x, OpSt base g n b (w.alloc (.cells (Ins.cells zI).toArray 64)) wx x)
      case first =>
        go_wp2_with fail
        · refine wp_region_rel 11 (JS base g (n+37) _) (Ext [g]) (kinds [(4, sAny), (9, sAny)]) (by kernel_rfl) (by kernel_rfl) JS.less ?_ (JS.start (Stm.less h2.out.stm (by omega))) ?_
          · repeat (first | exact Stays.nil | refine Stays.cons sAny.stays ?_ | refine Stays.cons sBool.stays ?_ | refine Stays.cons sNums.stays ?_ | refine Stays.cons sBlk.stays ?_ | refine Stays.cons sIns.stays ?_ | refine Stays.cons sInss.stays ?_ | refine Stays.cons sPtr.stays ?_ | refine Stays.cons sBelow.stays ?_)
          simp only [List.take_succ_cons, List.take_zero, List.drop_succ_cons, List.drop_zero]
          repeat
            refine relAt_det rfl rfl ?_
            apply Exists.intro
            refine ⟨fun wr nr hJ => ?_, ?_⟩
            · have hcw := fun i => (HC.out wr (((Ext.refl _ _).alloc _).trans (h2.out.ext.trans hJ.1)) i)
              clear hJ
              (go_simp; try go_bits)
              first | rfl | exact ⟨rfl, rfl⟩
            simp only [Act.put, List.setIfInBounds_toArray, List.set_cons_succ, List.set_cons_zero]
          refine rel_draw rfl rfl ?_ ?_
          · apply Exists.intro
            apply Exists.intro
            refine ⟨fun wr => ?_, fun wr nr hJ hE => ?_⟩
            · go_simp
              first | exact ⟨rfl, rfl⟩ | rfl
            exact ⟨_, _, (by omega), range_any base g _ _ _ _ hJ (by omega) (by omega)⟩
          intro (y1 : Int)
          simp only [Act.put, List.setIfInBounds_toArray, List.set_cons_succ, List.set_cons_zero]
          repeat
            refine relAt_det rfl rfl ?_
            apply Exists.intro
            refine ⟨fun wr nr hJ => ?_, ?_⟩
            · have hcw := fun i => (HC.out wr (((Ext.refl _ _).alloc _).trans (h2.out.ext.trans hJ.1)) i)
              clear hJ
              (go_simp; try go_bits)
              first | rfl | exact ⟨rfl, rfl⟩
            simp only [Act.put, List.setIfInBounds_toArray, List.set_cons_succ, List.set_cons_zero]
          refine rel_draw rfl rfl ?_ ?_
          · apply Exists.intro
            apply Exists.intro
            refine ⟨fun wr => ?_, fun wr nr hJ hE => ?_⟩
            · go_simp
              first | exact ⟨rfl, rfl⟩ | rfl
            exact ⟨_, _, (by omega), range_any base g _ _ _ _ hJ (by omega) (by omega)⟩
          intro (y2 : Int)
          simp only [Act.put, List.setIfInBounds_toArray, List.set_cons_succ, List.set_cons_zero]
          repeat
            refine relAt_det rfl rfl ?_
            apply Exists.intro
            refine ⟨fun wr nr hJ => ?_, ?_⟩
            · skip
              clear hJ
              (go_simp; try go_bits)
              first | rfl | exact ⟨rfl, rfl⟩
            simp only [Act.put, List.setIfInBounds_toArray, List.set_cons_succ, List.set_cons_zero]
          refine relAt_nil (fun w3 hJ hF => ?_)
          clear hF
          have h3 := hd (h2.out.draw hJ.1 hJ.2)
          clear hJ
          obtain ⟨k0, k1⟩ := h3.out.ins.cells
          have k2 := h3.out.ins.lt
          go_wp2_with fail
          go_meet
          exact ⟨_, ((h3.out.set 7 y1 (by omega)).set 8 y2 (by omega)).less (by omega)⟩
        · refine (range_any base g (n + 69) _ _ _ h2.out.stm (by omega) (by omega)).mono ?_
          rintro e w2 ⟨r2, rfl, _, hE2, hS2⟩
          have h3 := hd (h2.out.draw hE2 hS2)
          obtain ⟨k0, k1⟩ := h3.out.ins.cells
          have k2 := h3.out.ins.lt
          go_wp2_with fail
          go_meet
          exact ⟨_, (h3.out.set 7 r2 (by omega)).less (by omega)⟩
        · refine (pick_any base g (n + 69) _ 5 3 [1, 2, 3, 7, 2147483647] _ (h2.out.stm.alloc _) (Blk.new _ _ _) (by omega) (by simp)).mono ?_
          rintro e w2 ⟨r2, rfl, _, hE2, hS2⟩
          have h3 := hd ((h2.out.alloc _).draw hE2 hS2)
          obtain ⟨k0, k1⟩ := h3.out.ins.cells
          have k2 := h3.out.ins.lt
          go_wp2_with fail
          go_meet
          exact ⟨_, (h3.out.set 7 r2 (by omega)).less (by omega)⟩
        · go_meet
          exact ⟨_, h2.out.less (by omega)⟩
      case rest =>
        clear h2 hcw3 k0 k1 kl r0 r1
        obtain ⟨y, hy⟩ := hcut
        obtain ⟨k0, k1⟩ := hy.ins.cells
        have kl := hy.ins.lt
        have HR : Hd (IB wc w.heap.size zI) := hd (Blk.ext (Blk.new w 64 (Ins.cells zI).toArray) hy.ext (by simp; omega))
        obtain ⟨r0, r1⟩ := IB.cells HR.out
        have h2 := hd hy
        clear hy
        simp only [zI] at r0
        go_wp2_with fail
        have e2 := h2.out.ext
        have s2 := h2.out.stm
        have e3 : Ext [g] w wc := ((Ext.refl [g] w).alloc _).trans e2
        clear h2 e2 k0 k1 r0 r1
        refine bodyPost_ret (results_ins rfl _ _ w.heap.size y rfl (HR.out.all _ _ _ _ _ _ _ _ _)) rfl ⟨y, rfl, ?_, ?_⟩
        · iterate 9 refine Ext.setAt (by right; omega) ?_
          exact e3
        · iterate 9 refine Stm.setAt (by omega) (by omega) ?_
          exact s2
end Go.Proofs.Ytedabpldigcffaa
namespace Go.Proofs.Ytedabpldigcffaa
open Go.RowKit

/-- What a method of the coder leaves: nothing below bc has turned but the stream; the coder has n numbers and room for c instructions left. -/
def Coded (base bc g gc n c : Nat) (cm : CM) (w : World) (e : Ending) (w' : World) : Prop := e = .returned (.tuple #[]) ∧ Upto bc [g] w w' ∧ Cdr w' base bc g gc n c cm

theorem CdrAt.cdr {w : World} {base bc g gc n c : Nat} {cm : CM} {v : Value} {l : List Ins} (h : CdrAt w base bc g gc n c cm v l) : Cdr w base bc g gc n c cm := ⟨v, l, h⟩
/-- Draws, then an instruction. -/
theorem coded_end {base bc g gc n m N c c' c'' : Nat} {cm : CM} {v : Value} {l : List Ins} {w w1 w2 : World} (h : CdrAt w base bc g gc N c'' cm v l) (hE : Ext [g] w w1) (hU : Upto bc [g] w1 w2) (hC : Cdr w2 base bc g gc m c' cm) (hn : n ≤ m) (hc : c ≤ c') :
    Coded base bc g gc n c cm w (.returned (.tuple #[])) w2 := by
  have hb : bc ≤ w.heap.size := by have := h.blk.lt; have := h.bb; omega
  exact ⟨rfl, (Upto.of_ext hE hb (fun x hx => .inl hx)).trans hU, hC.less hn hc⟩
/-- Draws; then room for an instruction. -/
theorem CdrAt.go {base bc g gc m N c c' : Nat} {cm : CM} {v : Value} {l : List Ins} {w w1 : World} (h : CdrAt w base bc g gc N c cm v l) (hE : Ext [g] w w1) (hS : Stm w1 base g m) (hc : c' ≤ c) : Cdr w1 base bc g gc m c' cm :=
  ⟨v, l, (h.draw hE hS).less (Nat.le_refl _) hc⟩

set_option maxHeartbeats 4000000 in
set_option maxRecDepth 100000 in
theorem memory_any (base bc g gc n c : Nat) (cm : CM) (w : World) (h : Cdr w base bc g gc (n + 200) (c + 2) cm) :
    Calls Try.prog 89 #[.pointer (some ⟨gc, 0, none⟩)] w (Coded base bc g gc n c cm w) := by
  obtain ⟨v, l, h⟩ := h
  have HC := hd h.cells
  have hc0 := HC.out w (Ext.refl _ _)
  have hset := h.set
  have hque := h.que
  have hlan := h.lan
  have HH := hd h
  have hlt := h.blk.lt
  clear h
  simp only [cdrCells] at hc0
  go_enter Try.func89, Try.ntmps89
  go_wp2_with fail
  refine (next_any base g (n + 199) _ _ HH.out.stm (by omega)).mono ?_
  rintro e w1 ⟨r1, rfl, _, hE1, hS1⟩
  have hc1 := HC.out w1 hE1
  simp only [cdrCells] at hc1
  clear hc0
  go_upto_if 13 with fail
  go_cut [2] (fun s wx => ∃ r : Int, s = .int .i64 r ∧ Ext [g] w wx ∧ Stm wx base g (n + 160))
  case first =>
    go_wp2_with fail
    · refine wp_region_rel 9 (JS base g (n+160) _) (Ext [g]) (kinds [(8, sAny)]) (by kernel_rfl) (by kernel_rfl) JS.less ?_ (JS.start (Stm.less hS1 (by omega))) ?_
      · repeat (first | exact Stays.nil | refine Stays.cons sAny.stays ?_ | refine Stays.cons sBool.stays ?_ | refine Stays.cons sNums.stays ?_ | refine Stays.cons sBlk.stays ?_ | refine Stays.cons sIns.stays ?_ | refine Stays.cons sInss.stays ?_ | refine Stays.cons sPtr.stays ?_ | refine Stays.cons sBelow.stays ?_)
      simp only [List.take_succ_cons, List.take_zero, List.drop_succ_cons, List.drop_zero]
      repeat
        refine relAt_det rfl rfl ?_
        apply Exists.intro
        refine ⟨fun wr nr hJ => ?_, ?_⟩
        · have hcw := HC.out wr (hE1.trans hJ.1); simp only [cdrCells] at hcw
          clear hJ
          (go_simp; try go_bits)
          first | rfl | exact ⟨rfl, rfl⟩
        simp only [Act.put, List.setIfInBounds_toArray, List.set_cons_succ, List.set_cons_zero]
      refine rel_draw rfl rfl ?_ ?_
      · apply Exists.intro
        apply Exists.intro
        refine ⟨fun wr => ?_, fun wr nr hJ hE => ?_⟩
        · go_simp
          first | exact ⟨rfl, rfl⟩ | rfl
        exact ⟨_, _, (by omega), next_any base g _ _ _ hJ (by omega)⟩
      intro (y1 : Int)
      simp only [Act.put, List.setIfInBounds_toArray, List.set_cons_succ, List.set_cons_zero]
      refine relAt_nil (fun w3 hJ hF => ?_)
      clear hF
      go_wp2_with fail
      go_meet
      exact ⟨_, rfl, hE1.trans hJ.1, hJ.2⟩
    · go_meet
      exact ⟨_, rfl, hE1, hS1.less (by omega)⟩
  case rest =>
    clear hc1 hE1 hS1
    obtain ⟨r, rfl, hE1, hS1⟩ := hcut
    have hc1 := HC.out _ hE1
    simp only [cdrCells] at hc1
    go_upto_if 27 with (go_at_call 9; refine (flip_any base g (n + 159) _ _ hS1 (by omega)).mono ?_; rintro e w2 ⟨b2, rfl, hE2, hS2⟩)
    have E1 := hE1.trans hE2
    clear hc1 hE1 hE2 hS1
    have hc1 := HC.out _ E1
    simp only [cdrCells] at hc1
    go_cut [2] (fun s wx => ∃ r : Int, s = .int .i64 r ∧ Ext [g] w wx ∧ Stm wx base g (n + 150))
    case first =>
      cases b2
      · go_wp2_with fail
        go_meet
        exact ⟨_, rfl, E1, hS2.less (by omega)⟩
      · go_wp2_with fail
        refine (pick_any base g (n + 158) _ 5 3 [-1, 23, 255, 256, 64] _ (hS2.alloc _) (Blk.new _ _ _) (by have := hS2.lt; omega) (by simp)).mono ?_
        rintro e w3 ⟨r3, rfl, _, hE3, hS3⟩
        go_wp2_with fail
        go_meet
        exact ⟨_, rfl, E1.trans (((Ext.refl _ _).alloc _).trans hE3), hS3.less (by omega)⟩
    case rest =>
      clear hc1 E1 hS2
      obtain ⟨r, rfl, hE1, hS1⟩ := hcut
      have hc1 := HC.out _ hE1
      simp only [cdrCells] at hc1
      go_upto_if 38 with (go_at_call 9; refine (flip_any base g (n + 149) _ _ hS1 (by omega)).mono ?_; rintro e w2 ⟨b2, rfl, hE2, hS2⟩)
      have E1 := hE1.trans hE2
      clear hc1 hE1 hE2 hS1
      go_cut [3] (fun s wx => ∃ q : Int, s = .int .i64 q ∧ Ext [g] w wx ∧ Stm wx base g (n + 140))
      case first =>
        cases b2 <;> (go_wp2_with fail; go_meet; exact ⟨_, rfl, E1, hS2.less (by omega)⟩)
      case rest =>
        clear E1 hS2
        obtain ⟨q, rfl, hE1, hS1⟩ := hcut
        have hc1 := HC.out _ hE1
        simp only [cdrCells] at hc1
        go_wp2_with fail
        refine (next_any base g (n + 139) _ _ hS1 (by omega)).mono ?_
        rintro e w2 ⟨r2, rfl, _, hE2, hS2⟩
        have E1 := hE1.trans hE2
        clear hc1 hE1 hE2 hS1
        have hc1 := HC.out _ E1
        simp only [cdrCells] at hc1
        go_wp2_with fail
        · refine wp_region_rel 9 (JS base g (n+20) _) (Ext [g]) (kinds [(2, sAny), (7, sAny)]) (by kernel_rfl) (by kernel_rfl) JS.less ?_ (JS.start (Stm.less hS2 (by omega))) ?_
          · repeat (first | exact Stays.nil | refine Stays.cons sAny.stays ?_ | refine Stays.cons sBool.stays ?_ | refine Stays.cons sNums.stays ?_ | refine Stays.cons sBlk.stays ?_ | refine Stays.cons sIns.stays ?_ | refine Stays.cons sInss.stays ?_ | refine Stays.cons sPtr.stays ?_ | refine Stays.cons sBelow.stays ?_)
          simp only [List.take_succ_cons, List.take_zero, List.drop_succ_cons, List.drop_zero]
          repeat
            refine relAt_det rfl rfl ?_
            apply Exists.intro
            refine ⟨fun wr nr hJ => ?_, ?_⟩
            · have hcw := HC.out wr (E1.trans hJ.1); simp only [cdrCells] at hcw
              clear hJ
              (go_simp; try go_bits)
              first | rfl | exact ⟨rfl, rfl⟩
            simp only [Act.put, List.setIfInBounds_toArray, List.set_cons_succ, List.set_cons_zero]
          refine rel_draw rfl rfl ?_ ?_
          · apply Exists.intro
            apply Exists.intro
            refine ⟨fun wr => ?_, fun wr nr hJ hE => ?_⟩
            · go_simp
              first | exact ⟨rfl, rfl⟩ | rfl
            exact ⟨_, _, (by omega), reg_any base bc g gc _ (c + 2) cm v l _ (HH.out.draw (E1.trans hE) hJ)⟩
          intro (y1 : Int)
          simp only [Act.put, List.setIfInBounds_toArray, List.set_cons_succ, List.set_cons_zero]
          repeat
            refine relAt_det rfl rfl ?_
            apply Exists.intro
            refine ⟨fun wr nr hJ => ?_, ?_⟩
            · have hcw := HC.out wr (E1.trans hJ.1); simp only [cdrCells] at hcw
              clear hJ
              (go_simp; try go_bits)
              first | rfl | exact ⟨rfl, rfl⟩
            simp only [Act.put, List.setIfInBounds_toArray, List.set_cons_succ, List.set_cons_zero]
          refine rel_draw rfl rfl ?_ ?_
          · apply Exists.intro
            apply Exists.intro
            refine ⟨fun wr => ?_, fun wr nr hJ hE => ?_⟩
            · go_simp
              first | exact ⟨rfl, rfl⟩ | rfl
            exact ⟨_, _, (by omega), next_any base g _ _ _ hJ (by omega)⟩
          intro (y2 : Int)
          simp only [Act.put, List.setIfInBounds_toArray, List.set_cons_succ, List.set_cons_zero]
          repeat
            refine relAt_det rfl rfl ?_
            apply Exists.intro
            refine ⟨fun wr nr hJ => ?_, ?_⟩
            · skip
              clear hJ
              (go_simp; try go_bits)
              first | rfl | exact ⟨rfl, rfl⟩
            simp only [Act.put, List.setIfInBounds_toArray, List.set_cons_succ, List.set_cons_zero]
          refine relAt_nil (fun w3 hJ hF => ?_)
          clear hF
          have E3 := E1.trans hJ.1
          go_wp2_with fail
          refine (add_any base bc g gc (n + 20) (c + 1) cm ⟨5, 0, y1, 0, 0, 0, 0, y2, 0⟩ _ (HH.out.go E3 hJ.2 (by omega))).mono ?_
          rintro e w4 ⟨rfl, hU, hC⟩
          go_wp2_with fail
          go_end0
          exact coded_end HH.out E3 hU hC (by omega) (by omega)
        · refine wp_region_rel 9 (JS base g (n+20) _) (Ext [g]) (kinds [(2, sAny), (7, sAny)]) (by kernel_rfl) (by kernel_rfl) JS.less ?_ (JS.start (Stm.less hS2 (by omega))) ?_
          · repeat (first | exact Stays.nil | refine Stays.cons sAny.stays ?_ | refine Stays.cons sBool.stays ?_ | refine Stays.cons sNums.stays ?_ | refine Stays.cons sBlk.stays ?_ | refine Stays.cons sIns.stays ?_ | refine Stays.cons sInss.stays ?_ | refine Stays.cons sPtr.stays ?_ | refine Stays.cons sBelow.stays ?_)
          simp only [List.take_succ_cons, List.take_zero, List.drop_succ_cons, List.drop_zero]
          repeat
            refine relAt_det rfl rfl ?_
            apply Exists.intro
            refine ⟨fun wr nr hJ => ?_, ?_⟩
            · have hcw := HC.out wr (E1.trans hJ.1); simp only [cdrCells] at hcw
              clear hJ
              (go_simp; try go_bits)
              first | rfl | exact ⟨rfl, rfl⟩
            simp only [Act.put, List.setIfInBounds_toArray, List.set_cons_succ, List.set_cons_zero]
          refine rel_draw rfl rfl ?_ ?_
          · apply Exists.intro
            apply Exists.intro
            refine ⟨fun wr => ?_, fun wr nr hJ hE => ?_⟩
            · go_simp
              first | exact ⟨rfl, rfl⟩ | rfl
            exact ⟨_, _, (by omega), reg_any base bc g gc _ (c + 2) cm v l _ (HH.out.draw (E1.trans hE) hJ)⟩
          intro (y1 : Int)
          simp only [Act.put, List.setIfInBounds_toArray, List.set_cons_succ, List.set_cons_zero]
          repeat
            refine relAt_det rfl rfl ?_
            apply Exists.intro
            refine ⟨fun wr nr hJ => ?_, ?_⟩
            · have hcw := HC.out wr (E1.trans hJ.1); simp only [cdrCells] at hcw
              clear hJ
              (go_simp; try go_bits)
              first | rfl | exact ⟨rfl, rfl⟩
            simp only [Act.put, List.setIfInBounds_toArray, List.set_cons_succ, List.set_cons_zero]
          refine rel_draw rfl rfl ?_ ?_
          · apply Exists.intro
            apply Exists.intro
            refine ⟨fun wr => ?_, fun wr nr hJ hE => ?_⟩
            · go_simp
              first | exact ⟨rfl, rfl⟩ | rfl
            exact ⟨_, _, (by omega), next_any base g _ _ _ hJ (by omega)⟩
          intro (y2 : Int)
          simp only [Act.put, List.setIfInBounds_toArray, List.set_cons_succ, List.set_cons_zero]
          repeat
            refine relAt_det rfl rfl ?_
            apply Exists.intro
            refine ⟨fun wr nr hJ => ?_, ?_⟩
            · skip
              clear hJ
              (go_simp; try go_bits)
              first | rfl | exact ⟨rfl, rfl⟩
            simp only [Act.put, List.setIfInBounds_toArray, List.set_cons_succ, List.set_cons_zero]
          refine relAt_nil (fun w3 hJ hF => ?_)
          clear hF
          have E3 := E1.trans hJ.1
          go_wp2_with fail
          refine (add_any base bc g gc (n + 20) (c + 1) cm ⟨6, 0, 0, 0, y1, 0, 0, y2, 0⟩ _ (HH.out.go E3 hJ.2 (by omega))).mono ?_
          rintro e w4 ⟨rfl, hU, hC⟩
          go_wp2_with fail
          go_end0
          exact coded_end HH.out E3 hU hC (by omega) (by omega)
        · refine (reg_any base bc g gc (n + 138) (c + 2) cm v l _ (HH.out.draw E1 hS2)).mono ?_
          rintro e w3 ⟨y1, rfl, _, hE3, hS3⟩
          have E3 := E1.trans hE3
          have hc3 := HC.out _ E3
          simp only [cdrCells] at hc3
          go_wp2_with fail
          refine (add_any base bc g gc (n + 138) (c + 1) cm ⟨7, 0, y1, 0, 0, q, 0, r, 0⟩ _ (HH.out.go E3 hS3 (by omega))).mono ?_
          rintro e w4 ⟨rfl, hU, hC⟩
          go_wp2_with fail
          go_end0
          exact coded_end HH.out E3 hU hC (by omega) (by omega)
        · refine (reg_any base bc g gc (n + 138) (c + 2) cm v l _ (HH.out.draw E1 hS2)).mono ?_
          rintro e w3 ⟨y1, rfl, _, hE3, hS3⟩
          have E3 := E1.trans hE3
          have hc3 := HC.out _ E3
          simp only [cdrCells] at hc3
          go_wp2_with fail
          refine (add_any base bc g gc (n + 138) (c + 1) cm ⟨8, 0, 0, 0, y1, q, 0, r, 0⟩ _ (HH.out.go E3 hS3 (by omega))).mono ?_
          rintro e w4 ⟨rfl, hU, hC⟩
          go_wp2_with fail
          go_end0
          exact coded_end HH.out E3 hU hC (by omega) (by omega)
        · refine (next_any base g (n + 138) _ _ hS2 (by omega)).mono ?_
          rintro e w3 ⟨y1, rfl, _, hE3, hS3⟩
          have E3 := E1.trans hE3
          have hc3 := HC.out _ E3
          simp only [cdrCells] at hc3
          go_wp2_with fail
          refine (add_any base bc g gc (n + 138) (c + 1) cm ⟨9, 0, y1, 0, 0, q, 0, r, 0⟩ _ (HH.out.go E3 hS3 (by omega))).mono ?_
          rintro e w4 ⟨rfl, hU, hC⟩
          go_wp2_with fail
          go_end0
          exact coded_end HH.out E3 hU hC (by omega) (by omega)
        · refine (next_any base g (n + 138) _ _ hS2 (by omega)).mono ?_
          rintro e w3 ⟨y1, rfl, _, hE3, hS3⟩
          have E3 := E1.trans hE3
          have hc3 := HC.out _ E3
          simp only [cdrCells] at hc3
          go_wp2_with fail
          refine (add_any base bc g gc (n + 138) (c + 1) cm ⟨10, 0, 0, 0, y1, q, 0, r, 0⟩ _ (HH.out.go E3 hS3 (by omega))).mono ?_
          rintro e w4 ⟨rfl, hU, hC⟩
          go_wp2_with fail
          go_end0
          exact coded_end HH.out E3 hU hC (by omega) (by omega)
        · refine (next_any base g (n + 138) _ _ hS2 (by omega)).mono ?_
          rintro e w3 ⟨y1, rfl, _, hE3, hS3⟩
          have E3 := E1.trans hE3
          have hc3 := HC.out _ E3
          simp only [cdrCells] at hc3
          go_wp2_with fail
          refine (add_any base bc g gc (n + 138) (c + 1) cm ⟨14, 0, 0, 0, 0, q, 0, r, y1⟩ _ (HH.out.go E3 hS3 (by omega))).mono ?_
          rintro e w4 ⟨rfl, hU, hC⟩
          go_wp2_with fail
          go_end0
          exact coded_end HH.out E3 hU hC (by omega) (by omega)
        · refine wp_region_rel 28 (JS base g (n+50) _) (Ext [g]) (kinds [(10, sAny), (15, sAny), (21, sAny), (26, sAny)]) (by kernel_rfl) (by kernel_rfl) JS.less ?_ (JS.start (Stm.less hS2 (by omega))) ?_
          · repeat (first | exact Stays.nil | refine Stays.cons sAny.stays ?_ | refine Stays.cons sBool.stays ?_ | refine Stays.cons sNums.stays ?_ | refine Stays.cons sBlk.stays ?_ | refine Stays.cons sIns.stays ?_ | refine Stays.cons sInss.stays ?_ | refine Stays.cons sPtr.stays ?_ | refine Stays.cons sBelow.stays ?_)
          simp only [List.take_succ_cons, List.take_zero, List.drop_succ_cons, List.drop_zero]
          repeat
            refine relAt_det rfl rfl ?_
            apply Exists.intro
            refine ⟨fun wr nr hJ => ?_, ?_⟩
            · have hcw := HC.out wr (E1.trans hJ.1); simp only [cdrCells] at hcw
              clear hJ
              (go_simp; try go_bits)
              first | rfl | exact ⟨rfl, rfl⟩
            simp only [Act.put, List.setIfInBounds_toArray, List.set_cons_succ, List.set_cons_zero]
          refine rel_draw rfl rfl ?_ ?_
          · apply Exists.intro
            apply Exists.intro
            refine ⟨fun wr => ?_, fun wr nr hJ hE => ?_⟩
            · go_simp
              first | exact ⟨rfl, rfl⟩ | rfl
            exact ⟨_, _, (by omega), next_any base g _ _ _ hJ (by omega)⟩
          intro (y1 : Int)
          simp only [Act.put, List.setIfInBounds_toArray, List.set_cons_succ, List.set_cons_zero]
          repeat
            refine relAt_det rfl rfl ?_
            apply Exists.intro
            refine ⟨fun wr nr hJ => ?_, ?_⟩
            · have hcw := HC.out wr (E1.trans hJ.1); simp only [cdrCells] at hcw
              clear hJ
              (go_simp; try go_bits)
              first | rfl | exact ⟨rfl, rfl⟩
            simp only [Act.put, List.setIfInBounds_toArray, List.set_cons_succ, List.set_cons_zero]
          refine rel_draw rfl rfl ?_ ?_
          · apply Exists.intro
            apply Exists.intro
            refine ⟨fun wr => ?_, fun wr nr hJ hE => ?_⟩
            · go_simp
              first | exact ⟨rfl, rfl⟩ | rfl
            exact ⟨_, _, (by omega), range_any base g _ _ _ _ hJ (by omega) (by omega)⟩
          intro (y2 : Int)
          simp only [Act.put, List.setIfInBounds_toArray, List.set_cons_succ, List.set_cons_zero]
          repeat
            refine relAt_det rfl rfl ?_
            apply Exists.intro
            refine ⟨fun wr nr hJ => ?_, ?_⟩
            · have hcw := HC.out wr (E1.trans hJ.1); simp only [cdrCells] at hcw
              clear hJ
              (go_simp; try go_bits)
              first | rfl | exact ⟨rfl, rfl⟩
            simp only [Act.put, List.setIfInBounds_toArray, List.set_cons_succ, List.set_cons_zero]
          refine rel_draw rfl rfl ?_ ?_
          · apply Exists.intro
            apply Exists.intro
            refine ⟨fun wr => ?_, fun wr nr hJ hE => ?_⟩
            · go_simp
              first | exact ⟨rfl, rfl⟩ | rfl
            exact ⟨_, _, (by omega), next_any base g _ _ _ hJ (by omega)⟩
          intro (y3 : Int)
          simp only [Act.put, List.setIfInBounds_toArray, List.set_cons_succ, List.set_cons_zero]
          repeat
            refine relAt_det rfl rfl ?_
            apply Exists.intro
            refine ⟨fun wr nr hJ => ?_, ?_⟩
            · have hcw := HC.out wr (E1.trans hJ.1); simp only [cdrCells] at hcw
              clear hJ
              (go_simp; try go_bits)
              first | rfl | exact ⟨rfl, rfl⟩
            simp only [Act.put, List.setIfInBounds_toArray, List.set_cons_succ, List.set_cons_zero]
          refine rel_draw rfl rfl ?_ ?_
          · apply Exists.intro
            apply Exists.intro
            refine ⟨fun wr => ?_, fun wr nr hJ hE => ?_⟩
            · go_simp
              first | exact ⟨rfl, rfl⟩ | rfl
            exact ⟨_, _, (by omega), range_any base g _ _ _ _ hJ (by omega) (by omega)⟩
          intro (y4 : Int)
          simp only [Act.put, List.setIfInBounds_toArray, List.set_cons_succ, List.set_cons_zero]
          repeat
            refine relAt_det rfl rfl ?_
            apply Exists.intro
            refine ⟨fun wr nr hJ => ?_, ?_⟩
            · skip
              clear hJ
              (go_simp; try go_bits)
              first | rfl | exact ⟨rfl, rfl⟩
            simp only [Act.put, List.setIfInBounds_toArray, List.set_cons_succ, List.set_cons_zero]
          refine relAt_nil (fun w3 hJ hF => ?_)
          clear hF
          have E3 := E1.trans hJ.1
          go_wp2_with fail
          refine (add_any base bc g gc (n + 50) (c + 1) cm ⟨18, y2, y1, 0, 0, q, 0, y3, y4⟩ _ (HH.out.go E3 hJ.2 (by omega))).mono ?_
          rintro e w4 ⟨rfl, hU, v4, l4, hC⟩
          have HC4 := hd hC.cells
          have HH4 := hd hC
          have hc4 := HC4.out w4 (Ext.refl _ _)
          simp only [cdrCells] at hc4
          clear hC
          go_wp2_with fail
          refine (flip_any base g (n + 49) _ _ HH4.out.stm (by omega)).mono ?_
          rintro e w5 ⟨b5, rfl, hE5, hS5⟩
          have hc5 := HC4.out w5 hE5
          simp only [cdrCells] at hc5
          cases b5
          · go_wp2_with fail
            go_end0
            exact coded_end HH.out E3 (hU.trans (Upto.of_ext hE5 (by have := HH4.out.blk.lt; have := HH4.out.bb; omega) (fun x hx => .inl hx))) (HH4.out.go hE5 hS5 (Nat.le_refl _)) (by omega) (by omega)
          · go_wp2_with fail
            refine wp_region_rel 12 (JS base g n _) (Ext [g]) (kinds [(10, sAny)]) (by kernel_rfl) (by kernel_rfl) JS.less ?_ (JS.start (Stm.less hS5 (by omega))) ?_
            · repeat (first | exact Stays.nil | refine Stays.cons sAny.stays ?_ | refine Stays.cons sBool.stays ?_ | refine Stays.cons sNums.stays ?_ | refine Stays.cons sBlk.stays ?_ | refine Stays.cons sIns.stays ?_ | refine Stays.cons sInss.stays ?_ | refine Stays.cons sPtr.stays ?_ | refine Stays.cons sBelow.stays ?_)
            simp only [List.take_succ_cons, List.take_zero, List.drop_succ_cons, List.drop_zero]
            repeat
              refine relAt_det rfl rfl ?_
              apply Exists.intro
              refine ⟨fun wr nr hJ => ?_, ?_⟩
              · have hcw := HC4.out wr (hE5.trans hJ.1); simp only [cdrCells] at hcw
                clear hJ
                (go_simp; try go_bits)
                first | rfl | exact ⟨rfl, rfl⟩
              simp only [Act.put, List.setIfInBounds_toArray, List.set_cons_succ, List.set_cons_zero]
            refine rel_draw rfl rfl ?_ ?_
            · apply Exists.intro
              apply Exists.intro
              refine ⟨fun wr => ?_, fun wr nr hJ hE => ?_⟩
              · go_simp
                first | exact ⟨rfl, rfl⟩ | rfl
              exact ⟨_, _, (by omega), next_any base g _ _ _ hJ (by omega)⟩
            intro (z1 : Int)
            simp only [Act.put, List.setIfInBounds_toArray, List.set_cons_succ, List.set_cons_zero]
            repeat
              refine relAt_det rfl rfl ?_
              apply Exists.intro
              refine ⟨fun wr nr hJ => ?_, ?_⟩
              · skip
                clear hJ
                (go_simp; try go_bits)
                first | rfl | exact ⟨rfl, rfl⟩
              simp only [Act.put, List.setIfInBounds_toArray, List.set_cons_succ, List.set_cons_zero]
            refine relAt_nil (fun w6 hJ hF => ?_)
            clear hF
            have E6 := hE5.trans hJ.1
            go_wp2_with fail
            refine (add_any base bc g gc n c cm ⟨19, 0, z1, 0, 0, 0, 0, 0, 0⟩ _ (HH4.out.go E6 hJ.2 (by omega))).mono ?_
            rintro e w7 ⟨rfl, hU7, hC7⟩
            go_wp2_with fail
            go_end0
            exact coded_end HH.out E3 (hU.trans ((Upto.of_ext E6 (by have := HH4.out.blk.lt; have := HH4.out.bb; omega) (fun x hx => .inl hx)).trans hU7)) hC7 (by omega) (by omega)
end Go.Proofs.Ytedabpldigcffaa
namespace Go.Proofs.Ytedabpldigcffaa
open Go.RowKit

def oneD (d : Nat) : Nat := 3000 * 5 ^ d
def oneA (d : Nat) : Nat := 20 * 5 ^ d
theorem oneD_succ (d : Nat) : oneD (d + 1) = 5 * oneD d := by unfold oneD; rw [Nat.pow_succ]; omega
theorem oneA_succ (d : Nat) : oneA (d + 1) = 5 * oneA d := by unfold oneA; rw [Nat.pow_succ]; omega
theorem oneD_ge (d : Nat) : 3000 ≤ oneD d := by unfold oneD; have := Nat.one_le_pow d 5 (by omega); omega
theorem oneA_ge (d : Nat) : 20 ≤ oneA d := by unfold oneA; have := Nat.one_le_pow d 5 (by omega); omega

theorem own_form {w : World} {base : Nat} {e : TypeId} {size n : Nat} {v : Value} {xs : List Value} (h : w.ownsRow base e size v n xs) :
    ∃ A cap, v = .slice A n cap ∧ n ≤ cap ∧ (0 < n → ∃ g, A = some ⟨g, 0, none⟩ ∧ base ≤ g ∧ g < w.heap.size) := by
  rcases h.2 with ⟨rfl, rfl⟩ | ⟨g, cap, cur, rfl, hb, hg, hnc, _⟩
  · exact ⟨none, 0, rfl, Nat.le_refl _, fun h => absurd h (by omega)⟩
  · exact ⟨_, cap, rfl, hnc, fun _ => ⟨g, rfl, hb, (Array.getElem?_eq_some_iff.1 hg).1⟩⟩

theorem Ins.cells_get_set (x : Ins) (f : Nat) (y : Int) (hf : f < 9) : (x.set f y).cells = x.cells.set f (.int .i64 y) := by
  match f, hf with
  | 0, _ | 1, _ | 2, _ | 3, _ | 4, _ | 5, _ | 6, _ | 7, _ | 8, _ => rfl
theorem codeCells_set (l : List Ins) (i f : Nat) (y : Int) (hi : i < l.length) (hf : f < 9) : codeCells (l.set i ((l[i]).set f y)) = (codeCells l).set (i * 9 + f) (.int .i64 y) := by
  induction l generalizing i with
  | nil => simp at hi
  | cons x l ih =>
    have hcons : ∀ (y : Ins) (ys : List Ins), codeCells (y :: ys) = y.cells ++ codeCells ys := fun y ys => by simp [codeCells]
    cases i with
    | zero =>
      simp only [List.set_cons_zero, List.getElem_cons_zero, hcons, Nat.zero_mul, Nat.zero_add]
      rw [Ins.cells_get_set x f y hf, List.set_append_left _ _ (by simp [Ins.cells]; omega)]
    | succ i =>
      simp only [List.set_cons_succ, List.getElem_cons_succ, hcons]
      rw [List.set_append_right _ _ (by simp [Ins.cells]; omega), ih i (by simpa using hi)]
      have : (i + 1) * 9 + f - x.cells.length = i * 9 + f := by simp [Ins.cells]; omega
      rw [this]
/-- A field of an instruction of the code is turned. -/
theorem CdrAt.store {w : World} {base bc g gc n c g1 cap : Nat} {cm : CM} {l : List Ins} (h : CdrAt w base bc g gc n c cm (.slice (some ⟨g1, 0, none⟩) l.length cap) l) (i f : Nat) (y : Int) (hi : i < l.length) (hf : f < 9) :
    CdrAt (w.setCell ⟨g1, i * 9 + f, none⟩ (.int .i64 y)) base bc g gc n c cm (.slice (some ⟨g1, 0, none⟩) l.length cap) (l.set i ((l[i]).set f y)) := by
  have hb := own_base h.own g1 rfl
  have hne : g1 ≠ gc := fun e => own_blk_ne h.own h.blk (by decide) (by simp [Value.ownBlock, e])
  refine ⟨h.stm.setAt (by have := h.gb; omega) (by have := h.bas; omega), h.blk.far (fun e => hne e.symm) _, ?_, by simpa using h.room, h.gb, h.bb, h.bas, h.lan, h.que, h.set⟩
  rw [codeCells_set l i f y hi hf, List.length_set]
  exact (h.own.stored (i * 9 + f) _).1

/-- What the switch of 'one' leaves. -/
structure OneSt (base bc g gc n c : Nat) (cm : CM) (w wx : World) : Prop where
  up : Upto bc [g] w wx
  cdr : Cdr wx base bc g gc n c cm
theorem one_meet {base bc g gc n m N c c' c'' : Nat} {cm : CM} {v : Value} {l : List Ins} {w w1 w2 : World} (h : CdrAt w base bc g gc N c'' cm v l) (hE : Ext [g] w w1) (hU : Upto bc [g] w1 w2) (hC : Cdr w2 base bc g gc m c' cm) (hn : n ≤ m) (hc : c ≤ c') :
    OneSt base bc g gc n c cm w w2 := by
  have hb : bc ≤ w.heap.size := by have := h.blk.lt; have := h.bb; omega
  exact ⟨(Upto.of_ext hE hb (fun x hx => .inl hx)).trans hU, hC.less hn hc⟩

def OneSaid (d : Nat) : Prop := ∀ (base bc g gc n c : Nat) (cm : CM) (w : World), Cdr w base bc g gc (n + oneD d) (c + oneA d) cm →
    Calls Try.prog 73 #[.pointer (some ⟨gc, 0, none⟩), .int .i64 d] w (Coded base bc g gc n c cm w)

set_option maxHeartbeats 8000000 in
set_option maxRecDepth 100000 in
theorem one_step (d : Nat) (hd9 : d ≤ 1000) (ih : ∀ d', d = d' + 1 → OneSaid d') : OneSaid d := by
  intro base bc g gc n c cm w h
  obtain ⟨v, l, h⟩ := h
  obtain ⟨A, cap, rfl, hcap, hA⟩ := own_form h.own
  have HC := hd h.cells
  have hc0 := HC.out w (Ext.refl _ _)
  have hset := h.set
  have hque := h.que
  have hlan := h.lan
  have hroom := h.room
  have HH := hd h
  have hlt := h.blk.lt
  have hDg := oneD_ge d
  have hAg := oneA_ge d
  have IH := hd ih
  clear h hA ih
  simp only [cdrCells] at hc0
  go_enter Try.func73, Try.ntmps73
  go_wp2_with fail
  refine (next_any base g (n + oneD d - 1) _ _ (HH.out.stm.less (by omega)) (by omega)).mono ?_
  rintro e w1 ⟨r1, rfl, ⟨hr0, hr1⟩, hE1, hS1⟩
  have hc1 := HC.out w1 hE1
  simp only [cdrCells] at hc1
  clear hc0 hr1
  go_upto_block 0 with fail
  go_cut [] (fun wx => OneSt base bc g gc (n + 600) (c + 1) cm w wx)
  case first =>
    go_wp2_with fail
    · refine wp_region_rel 18 (JS base g (n+700) _) (Ext [g]) (kinds [(5, sAny), (14, sAny), (15, sNums 7 g), (16, sAny)]) (by kernel_rfl) (by kernel_rfl) JS.less ?_ (JS.start (Stm.less hS1 (by omega))) ?_
      · repeat (first | exact Stays.nil | refine Stays.cons sAny.stays ?_ | refine Stays.cons sBool.stays ?_ | refine Stays.cons sNums.stays ?_ | refine Stays.cons sBlk.stays ?_ | refine Stays.cons sIns.stays ?_ | refine Stays.cons sInss.stays ?_ | refine Stays.cons sPtr.stays ?_ | refine Stays.cons sBelow.stays ?_)
      simp only [List.take_succ_cons, List.take_zero, List.drop_succ_cons, List.drop_zero]
      repeat
        refine relAt_det rfl rfl ?_
        apply Exists.intro
        refine ⟨fun wr nr hJ => ?_, ?_⟩
        · have hcw := HC.out wr (hE1.trans hJ.1); simp only [cdrCells] at hcw
          clear hJ
          (go_simp; try go_bits)
          first | rfl | exact ⟨rfl, rfl⟩
        simp only [Act.put, List.setIfInBounds_toArray, List.set_cons_succ, List.set_cons_zero]
      refine rel_draw rfl rfl ?_ ?_
      · apply Exists.intro
        apply Exists.intro
        refine ⟨fun wr => ?_, fun wr nr hJ hE => ?_⟩
        · go_simp
          first | exact ⟨rfl, rfl⟩ | rfl
        exact ⟨_, _, (by omega), range_any base g _ _ _ _ hJ (by omega) (by omega)⟩
      intro (y1 : Int)
      simp only [Act.put, List.setIfInBounds_toArray, List.set_cons_succ, List.set_cons_zero]
      repeat
        refine relAt_det rfl rfl ?_
        apply Exists.intro
        refine ⟨fun wr nr hJ => ?_, ?_⟩
        · have hcw := HC.out wr (hE1.trans hJ.1); simp only [cdrCells] at hcw
          clear hJ
          (go_simp; try go_bits)
          first | rfl | exact ⟨rfl, rfl⟩
        simp only [Act.put, List.setIfInBounds_toArray, List.set_cons_succ, List.set_cons_zero]
      refine rel_draw rfl rfl ?_ ?_
      · apply Exists.intro
        apply Exists.intro
        refine ⟨fun wr => ?_, fun wr nr hJ hE => ?_⟩
        · go_simp
          first | exact ⟨rfl, rfl⟩ | rfl
        exact ⟨_, _, (by omega), word_any base g _ _ hJ⟩
      intro (y2 : Int)
      simp only [Act.put, List.setIfInBounds_toArray, List.set_cons_succ, List.set_cons_zero]
      refine rel_nums 7 [0, 1, 2, 3, 9, -1, y2] rfl rfl rfl ?_ ?_
      · intro wr
        go_simp
        try first | rfl | exact ⟨rfl, rfl⟩
      intro (z : Nat)
      simp only [Act.put, List.setIfInBounds_toArray, List.set_cons_succ, List.set_cons_zero]
      repeat
        refine relAt_det rfl rfl ?_
        apply Exists.intro
        refine ⟨fun wr nr hJ => ?_, ?_⟩
        · have hcw := HC.out wr (hE1.trans hJ.1); simp only [cdrCells] at hcw
          clear hJ
          (go_simp; try go_bits)
          first | rfl | exact ⟨rfl, rfl⟩
        simp only [Act.put, List.setIfInBounds_toArray, List.set_cons_succ, List.set_cons_zero]
      refine rel_pick 15 z 7 rfl rfl (by kernel_rfl) rfl (by omega) ?_ ?_
      · intro wr
        go_simp
        try first | rfl | exact ⟨rfl, rfl⟩
      intro (y3 : Int)
      simp only [Act.put, List.setIfInBounds_toArray, List.set_cons_succ, List.set_cons_zero]
      repeat
        refine relAt_det rfl rfl ?_
        apply Exists.intro
        refine ⟨fun wr nr hJ => ?_, ?_⟩
        · skip
          clear hJ
          (go_simp; try go_bits)
          first | rfl | exact ⟨rfl, rfl⟩
        simp only [Act.put, List.setIfInBounds_toArray, List.set_cons_succ, List.set_cons_zero]
      refine relAt_nil (fun w3 hJ hF => ?_)
      clear hF
      have E3 := hE1.trans hJ.1
      go_wp2_with fail
      refine (add_any base bc g gc (n + 700) (c + 1) cm ⟨1, 0, y1, 0, 0, 0, 0, y3, 0⟩ _ (HH.out.go E3 hJ.2 (by omega))).mono ?_
      rintro e w4 ⟨rfl, hU, hC⟩
      go_wp2_with fail
      go_meet
      exact one_meet HH.out E3 hU hC (by omega) (by omega)
    · refine (op_any base bc g gc (n + 2000) (c + oneA d) cm _ l 2 6 _ (HH.out.draw hE1 (hS1.less (by omega))) (by omega)).mono ?_
      rintro e w3 ⟨x, rfl, hE3, hS3⟩
      have E3 := hE1.trans hE3
      go_wp2_with fail
      refine (add_any base bc g gc (n + 2000) (c + 1) cm x _ (HH.out.go E3 hS3 (by omega))).mono ?_
      rintro e w4 ⟨rfl, hU, hC⟩
      go_wp2_with fail
      go_meet
      exact one_meet HH.out E3 hU hC (by omega) (by omega)
    · refine (memory_any base bc g gc (n + 700) (c + 1) cm _ (HH.out.go hE1 (hS1.less (by omega)) (by omega))).mono ?_
      rintro e w4 ⟨rfl, hU, hC⟩
      go_wp2_with fail
      go_meet
      exact one_meet HH.out hE1 hU hC (by omega) (by omega)
    · refine (op_any base bc g gc (n + 2000) (c + oneA d) cm _ l 11 8 _ (HH.out.draw hE1 (hS1.less (by omega))) (by omega)).mono ?_
      rintro e w3 ⟨x, rfl, hE3, hS3⟩
      have E3 := hE1.trans hE3
      go_wp2_with fail
      refine (add_any base bc g gc (n + 2000) (c + 1) cm x _ (HH.out.go E3 hS3 (by omega))).mono ?_
      rintro e w4 ⟨rfl, hU, hC⟩
      go_wp2_with fail
      go_meet
      exact one_meet HH.out E3 hU hC (by omega) (by omega)
    · refine wp_region_rel 12 (JS base g (n+700) _) (Ext [g]) (kinds [(10, sAny)]) (by kernel_rfl) (by kernel_rfl) JS.less ?_ (JS.start (Stm.less hS1 (by omega))) ?_
      · repeat (first | exact Stays.nil | refine Stays.cons sAny.stays ?_ | refine Stays.cons sBool.stays ?_ | refine Stays.cons sNums.stays ?_ | refine Stays.cons sBlk.stays ?_ | refine Stays.cons sIns.stays ?_ | refine Stays.cons sInss.stays ?_ | refine Stays.cons sPtr.stays ?_ | refine Stays.cons sBelow.stays ?_)
      simp only [List.take_succ_cons, List.take_zero, List.drop_succ_cons, List.drop_zero]
      repeat
        refine relAt_det rfl rfl ?_
        apply Exists.intro
        refine ⟨fun wr nr hJ => ?_, ?_⟩
        · have hcw := HC.out wr (hE1.trans hJ.1); simp only [cdrCells] at hcw
          clear hJ
          (go_simp; try go_bits)
          first | rfl | exact ⟨rfl, rfl⟩
        simp only [Act.put, List.setIfInBounds_toArray, List.set_cons_succ, List.set_cons_zero]
      refine rel_draw rfl rfl ?_ ?_
      · apply Exists.intro
        apply Exists.intro
        refine ⟨fun wr => ?_, fun wr nr hJ hE => ?_⟩
        · go_simp
          first | exact ⟨rfl, rfl⟩ | rfl
        exact ⟨_, _, (by omega), next_any base g _ _ _ hJ (by omega)⟩
      intro (y1 : Int)
      simp only [Act.put, List.setIfInBounds_toArray, List.set_cons_succ, List.set_cons_zero]
      repeat
        refine relAt_det rfl rfl ?_
        apply Exists.intro
        refine ⟨fun wr nr hJ => ?_, ?_⟩
        · skip
          clear hJ
          (go_simp; try go_bits)
          first | rfl | exact ⟨rfl, rfl⟩
        simp only [Act.put, List.setIfInBounds_toArray, List.set_cons_succ, List.set_cons_zero]
      refine relAt_nil (fun w3 hJ hF => ?_)
      clear hF
      have E3 := hE1.trans hJ.1
      go_wp2_with fail
      refine (add_any base bc g gc (n + 700) (c + 1) cm ⟨19, 0, y1, 0, 0, 0, 0, 0, 0⟩ _ (HH.out.go E3 hJ.2 (by omega))).mono ?_
      rintro e w4 ⟨rfl, hU, hC⟩
      go_wp2_with fail
      go_meet
      exact one_meet HH.out E3 hU hC (by omega) (by omega)
    · refine wp_region_rel 48 (JS base g (n+700) _) (Ext [g]) (kinds [(5, sAny), (7, sAny), (10, sAny), (15, sAny), (25, sAny), (31, sAny), (38, sAny), (40, sInss 5 g), (45, sBelow 5), (46, sPtr g), (47, sIns)]) (by kernel_rfl) (by kernel_rfl) JS.less ?_ (JS.start (Stm.less hS1 (by omega))) ?_
      · repeat (first | exact Stays.nil | refine Stays.cons sAny.stays ?_ | refine Stays.cons sBool.stays ?_ | refine Stays.cons sNums.stays ?_ | refine Stays.cons sBlk.stays ?_ | refine Stays.cons sIns.stays ?_ | refine Stays.cons sInss.stays ?_ | refine Stays.cons sPtr.stays ?_ | refine Stays.cons sBelow.stays ?_)
      simp only [List.take_succ_cons, List.take_zero, List.drop_succ_cons, List.drop_zero]
      repeat
        refine relAt_det rfl rfl ?_
        apply Exists.intro
        refine ⟨fun wr nr hJ => ?_, ?_⟩
        · have hcw := HC.out wr (hE1.trans hJ.1); simp only [cdrCells] at hcw
          clear hJ
          (go_simp; try go_bits)
          first | rfl | exact ⟨rfl, rfl⟩
        simp only [Act.put, List.setIfInBounds_toArray, List.set_cons_succ, List.set_cons_zero]
      refine rel_draw rfl rfl ?_ ?_
      · apply Exists.intro
        apply Exists.intro
        refine ⟨fun wr => ?_, fun wr nr hJ hE => ?_⟩
        · go_simp
          first | exact ⟨rfl, rfl⟩ | rfl
        exact ⟨_, _, (by omega), next_any base g _ _ _ hJ (by omega)⟩
      intro (y1 : Int)
      simp only [Act.put, List.setIfInBounds_toArray, List.set_cons_succ, List.set_cons_zero]
      repeat
        refine relAt_det rfl rfl ?_
        apply Exists.intro
        refine ⟨fun wr nr hJ => ?_, ?_⟩
        · have hcw := HC.out wr (hE1.trans hJ.1); simp only [cdrCells] at hcw
          clear hJ
          (go_simp; try go_bits)
          first | rfl | exact ⟨rfl, rfl⟩
        simp only [Act.put, List.setIfInBounds_toArray, List.set_cons_succ, List.set_cons_zero]
      refine rel_draw rfl rfl ?_ ?_
      · apply Exists.intro
        apply Exists.intro
        refine ⟨fun wr => ?_, fun wr nr hJ hE => ?_⟩
        · go_simp
          first | exact ⟨rfl, rfl⟩ | rfl
        exact ⟨_, _, (by omega), reg_any base bc g gc _ (c + oneA d) cm _ l _ (HH.out.draw (hE1.trans hE) hJ)⟩
      intro (y2 : Int)
      simp only [Act.put, List.setIfInBounds_toArray, List.set_cons_succ, List.set_cons_zero]
      repeat
        refine relAt_det rfl rfl ?_
        apply Exists.intro
        refine ⟨fun wr nr hJ => ?_, ?_⟩
        · have hcw := HC.out wr (hE1.trans hJ.1); simp only [cdrCells] at hcw
          clear hJ
          (go_simp; try go_bits)
          first | rfl | exact ⟨rfl, rfl⟩
        simp only [Act.put, List.setIfInBounds_toArray, List.set_cons_succ, List.set_cons_zero]
      refine rel_draw rfl rfl ?_ ?_
      · apply Exists.intro
        apply Exists.intro
        refine ⟨fun wr => ?_, fun wr nr hJ hE => ?_⟩
        · go_simp
          first | exact ⟨rfl, rfl⟩ | rfl
        exact ⟨_, _, (by omega), reg_any base bc g gc _ (c + oneA d) cm _ l _ (HH.out.draw (hE1.trans hE) hJ)⟩
      intro (y3 : Int)
      simp only [Act.put, List.setIfInBounds_toArray, List.set_cons_succ, List.set_cons_zero]
      repeat
        refine relAt_det rfl rfl ?_
        apply Exists.intro
        refine ⟨fun wr nr hJ => ?_, ?_⟩
        · have hcw := HC.out wr (hE1.trans hJ.1); simp only [cdrCells] at hcw
          clear hJ
          (go_simp; try go_bits)
          first | rfl | exact ⟨rfl, rfl⟩
        simp only [Act.put, List.setIfInBounds_toArray, List.set_cons_succ, List.set_cons_zero]
      refine rel_draw rfl rfl ?_ ?_
      · apply Exists.intro
        apply Exists.intro
        refine ⟨fun wr => ?_, fun wr nr hJ hE => ?_⟩
        · go_simp
          first | exact ⟨rfl, rfl⟩ | rfl
        exact ⟨_, _, (by omega), next_any base g _ _ _ hJ (by omega)⟩
      intro (y4 : Int)
      simp only [Act.put, List.setIfInBounds_toArray, List.set_cons_succ, List.set_cons_zero]
      repeat
        refine relAt_det rfl rfl ?_
        apply Exists.intro
        refine ⟨fun wr nr hJ => ?_, ?_⟩
        · have hcw := HC.out wr (hE1.trans hJ.1); simp only [cdrCells] at hcw
          clear hJ
          (go_simp; try go_bits)
          first | rfl | exact ⟨rfl, rfl⟩
        simp only [Act.put, List.setIfInBounds_toArray, List.set_cons_succ, List.set_cons_zero]
      refine rel_draw rfl rfl ?_ ?_
      · apply Exists.intro
        apply Exists.intro
        refine ⟨fun wr => ?_, fun wr nr hJ hE => ?_⟩
        · go_simp
          first | exact ⟨rfl, rfl⟩ | rfl
        exact ⟨_, _, (by omega), next_any base g _ _ _ hJ (by omega)⟩
      intro (y5 : Int)
      simp only [Act.put, List.setIfInBounds_toArray, List.set_cons_succ, List.set_cons_zero]
      repeat
        refine relAt_det rfl rfl ?_
        apply Exists.intro
        refine ⟨fun wr nr hJ => ?_, ?_⟩
        · have hcw := HC.out wr (hE1.trans hJ.1); simp only [cdrCells] at hcw
          clear hJ
          (go_simp; try go_bits)
          first | rfl | exact ⟨rfl, rfl⟩
        simp only [Act.put, List.setIfInBounds_toArray, List.set_cons_succ, List.set_cons_zero]
      refine rel_draw rfl rfl ?_ ?_
      · apply Exists.intro
        apply Exists.intro
        refine ⟨fun wr => ?_, fun wr nr hJ hE => ?_⟩
        · go_simp
          first | exact ⟨rfl, rfl⟩ | rfl
        exact ⟨_, _, (by omega), next_any base g _ _ _ hJ (by omega)⟩
      intro (y6 : Int)
      simp only [Act.put, List.setIfInBounds_toArray, List.set_cons_succ, List.set_cons_zero]
      repeat
        refine relAt_det rfl rfl ?_
        apply Exists.intro
        refine ⟨fun wr nr hJ => ?_, ?_⟩
        · have hcw := HC.out wr (hE1.trans hJ.1); simp only [cdrCells] at hcw
          clear hJ
          (go_simp; try go_bits)
          first | rfl | exact ⟨rfl, rfl⟩
        simp only [Act.put, List.setIfInBounds_toArray, List.set_cons_succ, List.set_cons_zero]
      refine rel_draw rfl rfl ?_ ?_
      · apply Exists.intro
        apply Exists.intro
        refine ⟨fun wr => ?_, fun wr nr hJ hE => ?_⟩
        · go_simp
          first | exact ⟨rfl, rfl⟩ | rfl
        exact ⟨_, _, (by omega), next_any base g _ _ _ hJ (by omega)⟩
      intro (y7 : Int)
      simp only [Act.put, List.setIfInBounds_toArray, List.set_cons_succ, List.set_cons_zero]
      repeat
        refine relAt_det rfl rfl ?_
        apply Exists.intro
        refine ⟨fun wr nr hJ => ?_, ?_⟩
        · have hcw := HC.out wr (hE1.trans hJ.1); simp only [cdrCells] at hcw
          clear hJ
          (go_simp; try go_bits)
          first | rfl | exact ⟨rfl, rfl⟩
        simp only [Act.put, List.setIfInBounds_toArray, List.set_cons_succ, List.set_cons_zero]
      refine rel_inss 5 [⟨12, 0, y1, y2, 0, 0, 0, 0, 0⟩, ⟨13, 0, y3, y4, 0, 0, 0, y5, 0⟩, ⟨15, 0, 0, y6, 0, 0, 0, 0, 0⟩, ⟨16, 0, 0, 0, 0, 0, 0, 0, 0⟩, ⟨17, 0, y7, 0, 0, 0, 0, 0, 0⟩] rfl rfl rfl ?_ ?_
      · intro wr
        go_simp
        try first | rfl | exact ⟨rfl, rfl⟩
      intro (z : Nat)
      simp only [Act.put, List.setIfInBounds_toArray, List.set_cons_succ, List.set_cons_zero]
      repeat
        refine relAt_det rfl rfl ?_
        apply Exists.intro
        refine ⟨fun wr nr hJ => ?_, ?_⟩
        · have hcw := HC.out wr (hE1.trans hJ.1); simp only [cdrCells] at hcw
          clear hJ
          (go_simp; try go_bits)
          first | rfl | exact ⟨rfl, rfl⟩
        simp only [Act.put, List.setIfInBounds_toArray, List.set_cons_succ, List.set_cons_zero]
      refine rel_below 5 (by omega) rfl rfl ?_ ?_
      · apply Exists.intro
        apply Exists.intro
        refine ⟨fun wr => ?_, fun wr nr hJ hE => ?_⟩
        · go_simp
          first | exact ⟨rfl, rfl⟩ | rfl
        exact ⟨_, (by omega), next_any base g _ _ _ hJ (by omega)⟩
      intro (y8 : Int)
      simp only [Act.put, List.setIfInBounds_toArray, List.set_cons_succ, List.set_cons_zero]
      refine rel_ptr 40 45 z 5 y8 rfl rfl (by kernel_rfl) rfl (by kernel_rfl) rfl ?_ ?_
      · intro wr hr0 hr1
        replace hr1 : y8 < 5 := hr1
        go_simp
        try first | rfl | exact ⟨rfl, rfl⟩
      intro p
      simp only [Act.put, List.setIfInBounds_toArray, List.set_cons_succ, List.set_cons_zero]
      refine rel_ins 46 p rfl rfl (by kernel_rfl) rfl ?_ ?_
      · intro wr xi hx
        have c0 := hx 0 _ rfl
        have c1 := hx 1 _ rfl
        have c2 := hx 2 _ rfl
        have c3 := hx 3 _ rfl
        have c4 := hx 4 _ rfl
        have c5 := hx 5 _ rfl
        have c6 := hx 6 _ rfl
        have c7 := hx 7 _ rfl
        have c8 := hx 8 _ rfl
        clear hx
        simp only [Nat.add_zero] at c0
        go_simp
        try first | rfl | exact ⟨rfl, rfl⟩
      intro x
      simp only [Act.put, List.setIfInBounds_toArray, List.set_cons_succ, List.set_cons_zero]
      repeat
        refine relAt_det rfl rfl ?_
        apply Exists.intro
        refine ⟨fun wr nr hJ => ?_, ?_⟩
        · skip
          clear hJ
          (go_simp; try go_bits)
          first | rfl | exact ⟨rfl, rfl⟩
        simp only [Act.put, List.setIfInBounds_toArray, List.set_cons_succ, List.set_cons_zero]
      refine relAt_nil (fun w3 hJ hF => ?_)
      clear hF
      have E3 := hE1.trans hJ.1
      go_wp2_with fail
      refine (add_any base bc g gc (n + 700) (c + 1) cm x _ (HH.out.go E3 hJ.2 (by omega))).mono ?_
      rintro e w4 ⟨rfl, hU, hC⟩
      go_wp2_with fail
      go_meet
      exact one_meet HH.out E3 hU hC (by omega) (by omega)
    · refine wp_region_rel 25 (JS base g (n + oneD d - 100) _) (Ext [g]) (kinds [(5, sAny), (10, sNums 5 g), (11, sAny), (16, sNums 4 g), (17, sAny), (22, sNums 5 g), (23, sAny)]) (by kernel_rfl) (by kernel_rfl) JS.less ?_ (JS.start (Stm.less hS1 (by omega))) ?_
      · repeat (first | exact Stays.nil | refine Stays.cons sAny.stays ?_ | refine Stays.cons sBool.stays ?_ | refine Stays.cons sNums.stays ?_ | refine Stays.cons sBlk.stays ?_ | refine Stays.cons sIns.stays ?_ | refine Stays.cons sInss.stays ?_ | refine Stays.cons sPtr.stays ?_ | refine Stays.cons sBelow.stays ?_)
      simp only [List.take_succ_cons, List.take_zero, List.drop_succ_cons, List.drop_zero]
      repeat
        refine relAt_det rfl rfl ?_
        apply Exists.intro
        refine ⟨fun wr nr hJ => ?_, ?_⟩
        · have hcw := HC.out wr (hE1.trans hJ.1); simp only [cdrCells] at hcw
          clear hJ
          (go_simp; try go_bits)
          first | rfl | exact ⟨rfl, rfl⟩
        simp only [Act.put, List.setIfInBounds_toArray, List.set_cons_succ, List.set_cons_zero]
      refine rel_draw rfl rfl ?_ ?_
      · apply Exists.intro
        apply Exists.intro
        refine ⟨fun wr => ?_, fun wr nr hJ hE => ?_⟩
        · go_simp
          first | exact ⟨rfl, rfl⟩ | rfl
        exact ⟨_, _, (by omega), range_any base g _ _ _ _ hJ (by omega) (by omega)⟩
      intro (y1 : Int)
      simp only [Act.put, List.setIfInBounds_toArray, List.set_cons_succ, List.set_cons_zero]
      repeat
        refine relAt_det rfl rfl ?_
        apply Exists.intro
        refine ⟨fun wr nr hJ => ?_, ?_⟩
        · have hcw := HC.out wr (hE1.trans hJ.1); simp only [cdrCells] at hcw
          clear hJ
          (go_simp; try go_bits)
          first | rfl | exact ⟨rfl, rfl⟩
        simp only [Act.put, List.setIfInBounds_toArray, List.set_cons_succ, List.set_cons_zero]
      refine rel_nums 5 [0, 1, 1, 2, -1] rfl rfl rfl ?_ ?_
      · intro wr
        go_simp
        try first | rfl | exact ⟨rfl, rfl⟩
      intro (z1 : Nat)
      simp only [Act.put, List.setIfInBounds_toArray, List.set_cons_succ, List.set_cons_zero]
      repeat
        refine relAt_det rfl rfl ?_
        apply Exists.intro
        refine ⟨fun wr nr hJ => ?_, ?_⟩
        · have hcw := HC.out wr (hE1.trans hJ.1); simp only [cdrCells] at hcw
          clear hJ
          (go_simp; try go_bits)
          first | rfl | exact ⟨rfl, rfl⟩
        simp only [Act.put, List.setIfInBounds_toArray, List.set_cons_succ, List.set_cons_zero]
      refine rel_pick 10 z1 5 rfl rfl (by kernel_rfl) rfl (by omega) ?_ ?_
      · intro wr
        go_simp
        try first | rfl | exact ⟨rfl, rfl⟩
      intro (y2 : Int)
      simp only [Act.put, List.setIfInBounds_toArray, List.set_cons_succ, List.set_cons_zero]
      repeat
        refine relAt_det rfl rfl ?_
        apply Exists.intro
        refine ⟨fun wr nr hJ => ?_, ?_⟩
        · have hcw := HC.out wr (hE1.trans hJ.1); simp only [cdrCells] at hcw
          clear hJ
          (go_simp; try go_bits)
          first | rfl | exact ⟨rfl, rfl⟩
        simp only [Act.put, List.setIfInBounds_toArray, List.set_cons_succ, List.set_cons_zero]
      refine rel_nums 4 [0, 0, 1, 5] rfl rfl rfl ?_ ?_
      · intro wr
        go_simp
        try first | rfl | exact ⟨rfl, rfl⟩
      intro (z2 : Nat)
      simp only [Act.put, List.setIfInBounds_toArray, List.set_cons_succ, List.set_cons_zero]
      repeat
        refine relAt_det rfl rfl ?_
        apply Exists.intro
        refine ⟨fun wr nr hJ => ?_, ?_⟩
        · have hcw := HC.out wr (hE1.trans hJ.1); simp only [cdrCells] at hcw
          clear hJ
          (go_simp; try go_bits)
          first | rfl | exact ⟨rfl, rfl⟩
        simp only [Act.put, List.setIfInBounds_toArray, List.set_cons_succ, List.set_cons_zero]
      refine rel_pick 16 z2 4 rfl rfl (by kernel_rfl) rfl (by omega) ?_ ?_
      · intro wr
        go_simp
        try first | rfl | exact ⟨rfl, rfl⟩
      intro (y3 : Int)
      simp only [Act.put, List.setIfInBounds_toArray, List.set_cons_succ, List.set_cons_zero]
      repeat
        refine relAt_det rfl rfl ?_
        apply Exists.intro
        refine ⟨fun wr nr hJ => ?_, ?_⟩
        · have hcw := HC.out wr (hE1.trans hJ.1); simp only [cdrCells] at hcw
          clear hJ
          (go_simp; try go_bits)
          first | rfl | exact ⟨rfl, rfl⟩
        simp only [Act.put, List.setIfInBounds_toArray, List.set_cons_succ, List.set_cons_zero]
      refine rel_nums 5 [0, 1, 2, 3, 4] rfl rfl rfl ?_ ?_
      · intro wr
        go_simp
        try first | rfl | exact ⟨rfl, rfl⟩
      intro (z3 : Nat)
      simp only [Act.put, List.setIfInBounds_toArray, List.set_cons_succ, List.set_cons_zero]
      repeat
        refine relAt_det rfl rfl ?_
        apply Exists.intro
        refine ⟨fun wr nr hJ => ?_, ?_⟩
        · have hcw := HC.out wr (hE1.trans hJ.1); simp only [cdrCells] at hcw
          clear hJ
          (go_simp; try go_bits)
          first | rfl | exact ⟨rfl, rfl⟩
        simp only [Act.put, List.setIfInBounds_toArray, List.set_cons_succ, List.set_cons_zero]
      refine rel_pick 22 z3 5 rfl rfl (by kernel_rfl) rfl (by omega) ?_ ?_
      · intro wr
        go_simp
        try first | rfl | exact ⟨rfl, rfl⟩
      intro (y4 : Int)
      simp only [Act.put, List.setIfInBounds_toArray, List.set_cons_succ, List.set_cons_zero]
      repeat
        refine relAt_det rfl rfl ?_
        apply Exists.intro
        refine ⟨fun wr nr hJ => ?_, ?_⟩
        · skip
          clear hJ
          (go_simp; try go_bits)
          first | rfl | exact ⟨rfl, rfl⟩
        simp only [Act.put, List.setIfInBounds_toArray, List.set_cons_succ, List.set_cons_zero]
      refine relAt_nil (fun w3 hJ hF => ?_)
      clear hF
      have E3 := hE1.trans hJ.1
      go_wp2_with fail
      refine (add_any base bc g gc (n + oneD d - 100) (c + oneA d - 1) cm ⟨3, 0, y1, 0, 0, y2, 0, y3, y4⟩ _ (HH.out.go E3 hJ.2 (by omega))).mono ?_
      rintro e w4 ⟨rfl, hU, v4, l4, hC⟩
      have HH4 := hd hC
      have hc4 := hC.cells w4 (Ext.refl _ _)
      simp only [cdrCells] at hc4
      clear hC
      go_wp2_with fail
      refine (range_any base g (n + oneD d - 101) _ _ _ (HH4.out.stm.less (by omega)) (by omega) (by omega)).mono ?_
      rintro e w5 ⟨r5, rfl, ⟨hr50, hr51⟩, hE5, hS5⟩
      go_wp2_with fail
      obtain ⟨d', hdd⟩ : ∃ d', d = d' + 1 := ⟨d - 1, by omega⟩
      have hI : OneSaid d' := IH.out d' hdd
      have hD5 : oneD d = 5 * oneD d' := by rw [hdd]; exact oneD_succ d'
      have hA5 : oneA d = 5 * oneA d' := by rw [hdd]; exact oneA_succ d'
      have hDg' := oneD_ge d'
      have hAg' := oneA_ge d'
      have hC5 : Cdr w5 base bc g gc (n + 400 + (4 - 0) * oneD d') (c + 4 + (4 - 0) * oneA d') cm := (HH4.out.go hE5 hS5 (Nat.le_refl _)).less (by omega) (by omega)
      have hU5 : Upto bc [g] w4 w5 := Upto.of_ext hE5 (by have := HH4.out.blk.lt; have := HH4.out.bb; omega) (fun x hx => .inl hx)
      have hbs5 : bc ≤ w5.heap.size := by have := HH4.out.blk.lt; have := HH4.out.bb; have := hE5.size; omega
      have HD5 := hd hD5
      have HA5 := hd hA5
      have HDD := hd hdd
      clear hD5 hA5 hdd hc4 hc1
      go_loopw [159] (fun i wr => ∃ k : Nat, i = .int .i64 k ∧ (k : Int) ≤ r5 ∧ Upto bc [g] w5 wr ∧ Cdr wr base bc g gc (n + 400 + (4 - k) * oneD d') (c + 4 + (4 - k) * oneA d') cm) (fun i _ => (r5 - intOf i).toNat)
      case atStart => exact ⟨0, rfl, by omega, Upto.refl _ _ _, hC5⟩
      case round =>
        obtain ⟨k, rfl, hk, hUk, hCk⟩ := hrel
        have hd1 := HDD.out
        by_cases hlt : (k : Int) < r5
        · have e1 : (4 - k) * oneD d' = (4 - (k + 1)) * oneD d' + oneD d' := by rw [show 4 - k = (4 - (k + 1)) + 1 by omega, Nat.succ_mul]
          have e2 : (4 - k) * oneA d' = (4 - (k + 1)) * oneA d' + oneA d' := by rw [show 4 - k = (4 - (k + 1)) + 1 by omega, Nat.succ_mul]
          rw [e1, e2] at hCk
          have hCk' : Cdr wr base bc g gc (n + 400 + (4 - (k + 1)) * oneD d' + oneD d') (c + 4 + (4 - (k + 1)) * oneA d' + oneA d') cm := hCk.less (by omega) (by omega)
          have ed : ((d : Int) - 1) = (d' : Int) := by omega
          have HED := hd ed
          clear e1 e2 ed hd1 hCk
          go_wp2_with fail
          rw [HED.out]
          refine (hI base bc g gc (n + 400 + (4 - (k + 1)) * oneD d') (c + 4 + (4 - (k + 1)) * oneA d') cm _ hCk').mono ?_
          rintro e w7 ⟨rfl, hU7, hC7⟩
          go_wp2_with fail
          go_roundw
          case rel => exact ⟨k + 1, by go_num, by omega, hUk.trans hU7, hC7⟩
          case measure => simp [intOf]; omega
        · clear hd1
          go_wp2_with fail
          refine (add_any base bc g gc (n + 400) (c + 1) cm ⟨4, 0, 0, 0, 0, 0, 0, 0, 0⟩ _ (hCk.less (by omega) (by omega))).mono ?_
          rintro e w7 ⟨rfl, hU7, hC7⟩
          go_wp2_with fail
          refine bodyPost_ret (results_none rfl _ _ _) rfl ?_
          have hm := one_meet HH.out E3 (hU.trans (hU5.trans (hUk.trans hU7))) hC7 (Nat.le_refl _) (Nat.le_refl _)
          exact ⟨rfl, hm.up, hm.cdr.less (by omega) (by omega)⟩
    · go_meet
      exact one_meet HH.out hE1 (Upto.refl _ _ _) (HH.out.go hE1 hS1 (Nat.le_refl _)) (by omega) (by omega)
  case rest =>
    clear hc1 hS1 hE1
    obtain ⟨hU1, v1, l1, h1⟩ := hcut
    obtain ⟨A1, cap1, rfl, hcap1, hA1⟩ := own_form h1.own
    have HC1 := hd h1.cells
    have hc1 := HC1.out wc (Ext.refl _ _)
    simp only [cdrCells] at hc1
    have hbs1 : bc ≤ wc.heap.size := by have := h1.blk.lt; have := h1.bb; omega
    have hroom1 := h1.room
    have HH1 := hd h1
    have HU1 := hd hU1
    clear h1 hU1
    have hfin : ∀ wx, Ext [g] wc wx → Stm wx base g n → Coded base bc g gc n c cm w (.returned (.tuple #[])) wx := fun wx hE hS =>
      ⟨rfl, HU1.out.trans (Upto.of_ext hE hbs1 (fun x hx => .inl hx)), (HH1.out.go hE hS (by omega))⟩
    have HF := hd hfin
    clear hfin
    by_cases hgt : l.length < l1.length
    · obtain ⟨g1, rfl, hg1, hg1s⟩ := hA1 (by omega)
      go_wp2_with fail
      refine (flip_any base g (n + 599) _ _ HH1.out.stm (by omega)).mono ?_
      rintro e w5 ⟨b5, rfl, hE5, hS5⟩
      have hc5 := HC1.out w5 hE5
      simp only [cdrCells] at hc5
      cases b5
      · go_wp2_with fail
        go_end0
        exact HF.out _ hE5 (hS5.less (by omega))
      · have hgc5 : gc < w5.heap.size := by have := hE5.size; have := HH1.out.blk.lt; omega
        have hg15 : g1 < w5.heap.size := by have := hE5.size; omega
        have ho5 : w5.ownsRow bc 64 9 (.slice (some ⟨g1, 0, none⟩) l1.length cap1) l1.length (codeCells l1) := own_ext HH1.out.own hE5 (fun k hk => by have := own_base HH1.out.own k hk; have := HH1.out.gb; simp; omega)
        have hcell : ∀ j u, (l1[l.length]).cells[j]? = some u → w5.cell? ⟨g1, l.length * 9 + j, none⟩ = some u := fun j u hu => by
          have hj : j < 9 := by have := (List.getElem?_eq_some_iff.1 hu).1; simpa [Ins.cells] using this
          rw [ho5.cellAt (l.length * 9 + j) (by omega)]
          exact codeCells_get l1 l.length _ (List.getElem?_eq_getElem hgt) j u hu
        have hcop := hcell 0 _ rfl
        simp only [Nat.add_zero] at hcop
        have HO5 := hd ho5
        clear ho5 hcell
        go_wp2_with fail
        refine (contains_int (some ⟨w5.heap.size, 0, none⟩) 6 [1, 2, 5, 6, 7, 8] _ _ (RdI.new _ _ _) (by simp)).mono ?_
        rintro e w6 ⟨rfl, rfl⟩
        generalize decide ((l1[l.length]).op ∈ [1, 2, 5, 6, 7, 8]) = b6
        have hE6 : Ext [g] wc (w5.alloc (.cells (Nums [1, 2, 5, 6, 7, 8]) 3)) := hE5.alloc _
        have hS6 := hS5.alloc (.cells (Nums [1, 2, 5, 6, 7, 8]) 3)
        cases b6
        · go_wp2_with fail
          go_end0
          exact HF.out _ hE6 (hS6.less (by omega))
        · go_wp2_with fail
          refine wp_region_rel 10 (JS base g (n+100) _) (Ext [g]) (kinds [(9, sAny)]) (by kernel_rfl) (by kernel_rfl) JS.less ?_ (JS.start (Stm.less hS6 (by omega))) ?_
          · repeat (first | exact Stays.nil | refine Stays.cons sAny.stays ?_ | refine Stays.cons sBool.stays ?_ | refine Stays.cons sNums.stays ?_ | refine Stays.cons sBlk.stays ?_ | refine Stays.cons sIns.stays ?_ | refine Stays.cons sInss.stays ?_ | refine Stays.cons sPtr.stays ?_ | refine Stays.cons sBelow.stays ?_)
          simp only [List.take_succ_cons, List.take_zero, List.drop_succ_cons, List.drop_zero]
          repeat
            refine relAt_det rfl rfl ?_
            apply Exists.intro
            refine ⟨fun wr nr hJ => ?_, ?_⟩
            · have hcw := HC1.out wr (hE6.trans hJ.1); simp only [cdrCells] at hcw
              clear hJ
              (go_simp; try go_bits)
              first | rfl | exact ⟨rfl, rfl⟩
            simp only [Act.put, List.setIfInBounds_toArray, List.set_cons_succ, List.set_cons_zero]
          refine rel_draw rfl rfl ?_ ?_
          · apply Exists.intro
            apply Exists.intro
            refine ⟨fun wr => ?_, fun wr nr hJ hE => ?_⟩
            · go_simp
              first | exact ⟨rfl, rfl⟩ | rfl
            exact ⟨_, _, (by omega), range_any base g _ _ _ _ hJ (by omega) (by omega)⟩
          intro (y1 : Int)
          simp only [Act.put, List.setIfInBounds_toArray, List.set_cons_succ, List.set_cons_zero]
          refine relAt_nil (fun w7 hJ hF => ?_)
          clear hF
          have E7 := hE6.trans hJ.1
          have h7 := HH1.out.draw E7 hJ.2
          have hb7 := h7.own.cellAt (l.length * 9 + 6) (by omega)
          have hf7 := h7.own.frozenAt (l.length * 9 + 6)
          have hi7 : (codeCells l1)[l.length * 9 + 6]? = some (.int .i64 (l1[l.length]).p) := codeCells_get l1 l.length _ (List.getElem?_eq_getElem hgt) 6 _ rfl
          rw [hi7] at hb7
          have HH7 := hd h7
          clear h7 hi7
          go_wp2_with fail
          go_end0
          have hst := (HH7.out.store l.length 6 y1 hgt (by omega)).less (Nat.le_refl _) (show c ≤ c + 1 by omega)
          exact ⟨rfl, HU1.out.trans ((Upto.of_ext E7 hbs1 (fun x hx => .inl hx)).setCell (.inr hg1) _), (CdrAt.cdr hst).less (by omega) (Nat.le_refl _)⟩
    · go_wp2_with fail
      go_end0
      exact HF.out _ (Ext.refl _ _) (HH1.out.stm.less (by omega))
theorem one_any : ∀ d, d ≤ 1000 → OneSaid d
  | 0, h => one_step 0 h (fun d' e => by omega)
  | d + 1, h => one_step (d + 1) h (fun d' e => by have : d = d' := by omega
                                                   subst this
                                                   exact one_any d (by omega))
end Go.Proofs.Ytedabpldigcffaa
