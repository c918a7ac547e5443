/- The coder's method memory: an instruction that reads or writes words, or a transfer and perhaps a wait. -/
import Derived.Test.YtedabpldigcffaaOp
namespace Go.Proofs.Ytedabpldigcffaa
open Go.RowKit

/-- What a method of the coder leaves: nothing below bc has turned but the stream; the coder has n numbers and room for c instructions left. -/
def Coded (base bc g gc n c : Nat) (cm : CM) (w : World) (e : Ending) (w' : World) : Prop := e = .returned (.tuple #[]) ∧ Upto bc [g] w w' ∧ Cdr w' base bc g gc n c cm

theorem CdrAt.cdr {w : World} {base bc g gc n c : Nat} {cm : CM} {v : Value} {l : List Ins} (h : CdrAt w base bc g gc n c cm v l) : Cdr w base bc g gc n c cm := ⟨v, l, h⟩
/-- Draws, then an instruction. -/
theorem coded_end {base bc g gc n m N c c' c'' : Nat} {cm : CM} {v : Value} {l : List Ins} {w w1 w2 : World} (h : CdrAt w base bc g gc N c'' cm v l) (hE : Ext [g] w w1) (hU : Upto bc [g] w1 w2) (hC : Cdr w2 base bc g gc m c' cm) (hn : n ≤ m) (hc : c ≤ c') :
    Coded base bc g gc n c cm w (.returned (.tuple #[])) w2 := by
  have hb : bc ≤ w.heap.size := by have := h.blk.lt; have := h.bb; omega
  exact ⟨rfl, (Upto.of_ext hE hb (fun x hx => .inl hx)).trans hU, hC.less hn hc⟩
/-- Draws; then room for an instruction. -/
theorem CdrAt.go {base bc g gc m N c c' : Nat} {cm : CM} {v : Value} {l : List Ins} {w w1 : World} (h : CdrAt w base bc g gc N c cm v l) (hE : Ext [g] w w1) (hS : Stm w1 base g m) (hc : c' ≤ c) : Cdr w1 base bc g gc m c' cm :=
  ⟨v, l, (h.draw hE hS).less (Nat.le_refl _) hc⟩

set_option maxHeartbeats 4000000 in
set_option maxRecDepth 100000 in
theorem memory_any (base bc g gc n c : Nat) (cm : CM) (w : World) (h : Cdr w base bc g gc (n + 200) (c + 2) cm) :
    Calls Try.prog 89 #[.pointer (some ⟨gc, 0, none⟩)] w (Coded base bc g gc n c cm w) := by
  obtain ⟨v, l, h⟩ := h
  have HC := hd h.cells
  have hc0 := HC.out w (Ext.refl _ _)
  have hset := h.set
  have hque := h.que
  have hlan := h.lan
  have HH := hd h
  have hlt := h.blk.lt
  clear h
  simp only [cdrCells] at hc0
  go_enter Try.func89, Try.ntmps89
  go_wp2_with fail
  refine (next_any base g (n + 199) _ _ HH.out.stm (by omega)).mono ?_
  rintro e w1 ⟨r1, rfl, _, hE1, hS1⟩
  have hc1 := HC.out w1 hE1
  simp only [cdrCells] at hc1
  clear hc0
  go_upto_if 13 with fail
  go_cut [2] (fun s wx => ∃ r : Int, s = .int .i64 r ∧ Ext [g] w wx ∧ Stm wx base g (n + 160))
  case first =>
    go_wp2_with fail
    · refine wp_region_rel 9 (JS base g (n+160) _) (Ext [g]) (kinds [(8, sAny)]) (by kernel_rfl) (by kernel_rfl) JS.less ?_ (JS.start (Stm.less hS1 (by omega))) ?_
      · repeat (first | exact Stays.nil | refine Stays.cons sAny.stays ?_ | refine Stays.cons sBool.stays ?_ | refine Stays.cons sNums.stays ?_ | refine Stays.cons sBlk.stays ?_ | refine Stays.cons sIns.stays ?_ | refine Stays.cons sInss.stays ?_ | refine Stays.cons sPtr.stays ?_ | refine Stays.cons sBelow.stays ?_)
      simp only [List.take_succ_cons, List.take_zero, List.drop_succ_cons, List.drop_zero]
      repeat
        refine relAt_det rfl rfl ?_
        apply Exists.intro
        refine ⟨fun wr nr hJ => ?_, ?_⟩
        · have hcw := HC.out wr (hE1.trans hJ.1); simp only [cdrCells] at hcw
          clear hJ
          (go_simp; try go_bits)
          first | rfl | exact ⟨rfl, rfl⟩
        simp only [Act.put, List.setIfInBounds_toArray, List.set_cons_succ, List.set_cons_zero]
      refine rel_draw rfl rfl ?_ ?_
      · apply Exists.intro
        apply Exists.intro
        refine ⟨fun wr => ?_, fun wr nr hJ hE => ?_⟩
        · go_simp
          first | exact ⟨rfl, rfl⟩ | rfl
        exact ⟨_, _, (by omega), next_any base g _ _ _ hJ (by omega)⟩
      intro (y1 : Int)
      simp only [Act.put, List.setIfInBounds_toArray, List.set_cons_succ, List.set_cons_zero]
      refine relAt_nil (fun w3 hJ hF => ?_)
      clear hF
      go_wp2_with fail
      go_meet
      exact ⟨_, rfl, hE1.trans hJ.1, hJ.2⟩
    · go_meet
      exact ⟨_, rfl, hE1, hS1.less (by omega)⟩
  case rest =>
    clear hc1 hE1 hS1
    obtain ⟨r, rfl, hE1, hS1⟩ := hcut
    have hc1 := HC.out _ hE1
    simp only [cdrCells] at hc1
    go_upto_if 27 with (go_at_call 9; refine (flip_any base g (n + 159) _ _ hS1 (by omega)).mono ?_; rintro e w2 ⟨b2, rfl, hE2, hS2⟩)
    have E1 := hE1.trans hE2
    clear hc1 hE1 hE2 hS1
    have hc1 := HC.out _ E1
    simp only [cdrCells] at hc1
    go_cut [2] (fun s wx => ∃ r : Int, s = .int .i64 r ∧ Ext [g] w wx ∧ Stm wx base g (n + 150))
    case first =>
      cases b2
      · go_wp2_with fail
        go_meet
        exact ⟨_, rfl, E1, hS2.less (by omega)⟩
      · go_wp2_with fail
        refine (pick_any base g (n + 158) _ 5 3 [-1, 23, 255, 256, 64] _ (hS2.alloc _) (Blk.new _ _ _) (by have := hS2.lt; omega) (by simp)).mono ?_
        rintro e w3 ⟨r3, rfl, _, hE3, hS3⟩
        go_wp2_with fail
        go_meet
        exact ⟨_, rfl, E1.trans (((Ext.refl _ _).alloc _).trans hE3), hS3.less (by omega)⟩
    case rest =>
      clear hc1 E1 hS2
      obtain ⟨r, rfl, hE1, hS1⟩ := hcut
      have hc1 := HC.out _ hE1
      simp only [cdrCells] at hc1
      go_upto_if 38 with (go_at_call 9; refine (flip_any base g (n + 149) _ _ hS1 (by omega)).mono ?_; rintro e w2 ⟨b2, rfl, hE2, hS2⟩)
      have E1 := hE1.trans hE2
      clear hc1 hE1 hE2 hS1
      go_cut [3] (fun s wx => ∃ q : Int, s = .int .i64 q ∧ Ext [g] w wx ∧ Stm wx base g (n + 140))
      case first =>
        cases b2 <;> (go_wp2_with fail; go_meet; exact ⟨_, rfl, E1, hS2.less (by omega)⟩)
      case rest =>
        clear E1 hS2
        obtain ⟨q, rfl, hE1, hS1⟩ := hcut
        have hc1 := HC.out _ hE1
        simp only [cdrCells] at hc1
        go_wp2_with fail
        refine (next_any base g (n + 139) _ _ hS1 (by omega)).mono ?_
        rintro e w2 ⟨r2, rfl, _, hE2, hS2⟩
        have E1 := hE1.trans hE2
        clear hc1 hE1 hE2 hS1
        have hc1 := HC.out _ E1
        simp only [cdrCells] at hc1
        go_wp2_with fail
        · refine wp_region_rel 9 (JS base g (n+20) _) (Ext [g]) (kinds [(2, sAny), (7, sAny)]) (by kernel_rfl) (by kernel_rfl) JS.less ?_ (JS.start (Stm.less hS2 (by omega))) ?_
          · repeat (first | exact Stays.nil | refine Stays.cons sAny.stays ?_ | refine Stays.cons sBool.stays ?_ | refine Stays.cons sNums.stays ?_ | refine Stays.cons sBlk.stays ?_ | refine Stays.cons sIns.stays ?_ | refine Stays.cons sInss.stays ?_ | refine Stays.cons sPtr.stays ?_ | refine Stays.cons sBelow.stays ?_)
          simp only [List.take_succ_cons, List.take_zero, List.drop_succ_cons, List.drop_zero]
          repeat
            refine relAt_det rfl rfl ?_
            apply Exists.intro
            refine ⟨fun wr nr hJ => ?_, ?_⟩
            · have hcw := HC.out wr (E1.trans hJ.1); simp only [cdrCells] at hcw
              clear hJ
              (go_simp; try go_bits)
              first | rfl | exact ⟨rfl, rfl⟩
            simp only [Act.put, List.setIfInBounds_toArray, List.set_cons_succ, List.set_cons_zero]
          refine rel_draw rfl rfl ?_ ?_
          · apply Exists.intro
            apply Exists.intro
            refine ⟨fun wr => ?_, fun wr nr hJ hE => ?_⟩
            · go_simp
              first | exact ⟨rfl, rfl⟩ | rfl
            exact ⟨_, _, (by omega), reg_any base bc g gc _ (c + 2) cm v l _ (HH.out.draw (E1.trans hE) hJ)⟩
          intro (y1 : Int)
          simp only [Act.put, List.setIfInBounds_toArray, List.set_cons_succ, List.set_cons_zero]
          repeat
            refine relAt_det rfl rfl ?_
            apply Exists.intro
            refine ⟨fun wr nr hJ => ?_, ?_⟩
            · have hcw := HC.out wr (E1.trans hJ.1); simp only [cdrCells] at hcw
              clear hJ
              (go_simp; try go_bits)
              first | rfl | exact ⟨rfl, rfl⟩
            simp only [Act.put, List.setIfInBounds_toArray, List.set_cons_succ, List.set_cons_zero]
          refine rel_draw rfl rfl ?_ ?_
          · apply Exists.intro
            apply Exists.intro
            refine ⟨fun wr => ?_, fun wr nr hJ hE => ?_⟩
            · go_simp
              first | exact ⟨rfl, rfl⟩ | rfl
            exact ⟨_, _, (by omega), next_any base g _ _ _ hJ (by omega)⟩
          intro (y2 : Int)
          simp only [Act.put, List.setIfInBounds_toArray, List.set_cons_succ, List.set_cons_zero]
          repeat
            refine relAt_det rfl rfl ?_
            apply Exists.intro
            refine ⟨fun wr nr hJ => ?_, ?_⟩
            · skip
              clear hJ
              (go_simp; try go_bits)
              first | rfl | exact ⟨rfl, rfl⟩
            simp only [Act.put, List.setIfInBounds_toArray, List.set_cons_succ, List.set_cons_zero]
          refine relAt_nil (fun w3 hJ hF => ?_)
          clear hF
          have E3 := E1.trans hJ.1
          go_wp2_with fail
          refine (add_any base bc g gc (n + 20) (c + 1) cm ⟨5, 0, y1, 0, 0, 0, 0, y2, 0⟩ _ (HH.out.go E3 hJ.2 (by omega))).mono ?_
          rintro e w4 ⟨rfl, hU, hC⟩
          go_wp2_with fail
          go_end0
          exact coded_end HH.out E3 hU hC (by omega) (by omega)
        · refine wp_region_rel 9 (JS base g (n+20) _) (Ext [g]) (kinds [(2, sAny), (7, sAny)]) (by kernel_rfl) (by kernel_rfl) JS.less ?_ (JS.start (Stm.less hS2 (by omega))) ?_
          · repeat (first | exact Stays.nil | refine Stays.cons sAny.stays ?_ | refine Stays.cons sBool.stays ?_ | refine Stays.cons sNums.stays ?_ | refine Stays.cons sBlk.stays ?_ | refine Stays.cons sIns.stays ?_ | refine Stays.cons sInss.stays ?_ | refine Stays.cons sPtr.stays ?_ | refine Stays.cons sBelow.stays ?_)
          simp only [List.take_succ_cons, List.take_zero, List.drop_succ_cons, List.drop_zero]
          repeat
            refine relAt_det rfl rfl ?_
            apply Exists.intro
            refine ⟨fun wr nr hJ => ?_, ?_⟩
            · have hcw := HC.out wr (E1.trans hJ.1); simp only [cdrCells] at hcw
              clear hJ
              (go_simp; try go_bits)
              first | rfl | exact ⟨rfl, rfl⟩
            simp only [Act.put, List.setIfInBounds_toArray, List.set_cons_succ, List.set_cons_zero]
          refine rel_draw rfl rfl ?_ ?_
          · apply Exists.intro
            apply Exists.intro
            refine ⟨fun wr => ?_, fun wr nr hJ hE => ?_⟩
            · go_simp
              first | exact ⟨rfl, rfl⟩ | rfl
            exact ⟨_, _, (by omega), reg_any base bc g gc _ (c + 2) cm v l _ (HH.out.draw (E1.trans hE) hJ)⟩
          intro (y1 : Int)
          simp only [Act.put, List.setIfInBounds_toArray, List.set_cons_succ, List.set_cons_zero]
          repeat
            refine relAt_det rfl rfl ?_
            apply Exists.intro
            refine ⟨fun wr nr hJ => ?_, ?_⟩
            · have hcw := HC.out wr (E1.trans hJ.1); simp only [cdrCells] at hcw
              clear hJ
              (go_simp; try go_bits)
              first | rfl | exact ⟨rfl, rfl⟩
            simp only [Act.put, List.setIfInBounds_toArray, List.set_cons_succ, List.set_cons_zero]
          refine rel_draw rfl rfl ?_ ?_
          · apply Exists.intro
            apply Exists.intro
            refine ⟨fun wr => ?_, fun wr nr hJ hE => ?_⟩
            · go_simp
              first | exact ⟨rfl, rfl⟩ | rfl
            exact ⟨_, _, (by omega), next_any base g _ _ _ hJ (by omega)⟩
          intro (y2 : Int)
          simp only [Act.put, List.setIfInBounds_toArray, List.set_cons_succ, List.set_cons_zero]
          repeat
            refine relAt_det rfl rfl ?_
            apply Exists.intro
            refine ⟨fun wr nr hJ => ?_, ?_⟩
            · skip
              clear hJ
              (go_simp; try go_bits)
              first | rfl | exact ⟨rfl, rfl⟩
            simp only [Act.put, List.setIfInBounds_toArray, List.set_cons_succ, List.set_cons_zero]
          refine relAt_nil (fun w3 hJ hF => ?_)
          clear hF
          have E3 := E1.trans hJ.1
          go_wp2_with fail
          refine (add_any base bc g gc (n + 20) (c + 1) cm ⟨6, 0, 0, 0, y1, 0, 0, y2, 0⟩ _ (HH.out.go E3 hJ.2 (by omega))).mono ?_
          rintro e w4 ⟨rfl, hU, hC⟩
          go_wp2_with fail
          go_end0
          exact coded_end HH.out E3 hU hC (by omega) (by omega)
        · refine (reg_any base bc g gc (n + 138) (c + 2) cm v l _ (HH.out.draw E1 hS2)).mono ?_
          rintro e w3 ⟨y1, rfl, _, hE3, hS3⟩
          have E3 := E1.trans hE3
          have hc3 := HC.out _ E3
          simp only [cdrCells] at hc3
          go_wp2_with fail
          refine (add_any base bc g gc (n + 138) (c + 1) cm ⟨7, 0, y1, 0, 0, q, 0, r, 0⟩ _ (HH.out.go E3 hS3 (by omega))).mono ?_
          rintro e w4 ⟨rfl, hU, hC⟩
          go_wp2_with fail
          go_end0
          exact coded_end HH.out E3 hU hC (by omega) (by omega)
        · refine (reg_any base bc g gc (n + 138) (c + 2) cm v l _ (HH.out.draw E1 hS2)).mono ?_
          rintro e w3 ⟨y1, rfl, _, hE3, hS3⟩
          have E3 := E1.trans hE3
          have hc3 := HC.out _ E3
          simp only [cdrCells] at hc3
          go_wp2_with fail
          refine (add_any base bc g gc (n + 138) (c + 1) cm ⟨8, 0, 0, 0, y1, q, 0, r, 0⟩ _ (HH.out.go E3 hS3 (by omega))).mono ?_
          rintro e w4 ⟨rfl, hU, hC⟩
          go_wp2_with fail
          go_end0
          exact coded_end HH.out E3 hU hC (by omega) (by omega)
        · refine (next_any base g (n + 138) _ _ hS2 (by omega)).mono ?_
          rintro e w3 ⟨y1, rfl, _, hE3, hS3⟩
          have E3 := E1.trans hE3
          have hc3 := HC.out _ E3
          simp only [cdrCells] at hc3
          go_wp2_with fail
          refine (add_any base bc g gc (n + 138) (c + 1) cm ⟨9, 0, y1, 0, 0, q, 0, r, 0⟩ _ (HH.out.go E3 hS3 (by omega))).mono ?_
          rintro e w4 ⟨rfl, hU, hC⟩
          go_wp2_with fail
          go_end0
          exact coded_end HH.out E3 hU hC (by omega) (by omega)
        · refine (next_any base g (n + 138) _ _ hS2 (by omega)).mono ?_
          rintro e w3 ⟨y1, rfl, _, hE3, hS3⟩
          have E3 := E1.trans hE3
          have hc3 := HC.out _ E3
          simp only [cdrCells] at hc3
          go_wp2_with fail
          refine (add_any base bc g gc (n + 138) (c + 1) cm ⟨10, 0, 0, 0, y1, q, 0, r, 0⟩ _ (HH.out.go E3 hS3 (by omega))).mono ?_
          rintro e w4 ⟨rfl, hU, hC⟩
          go_wp2_with fail
          go_end0
          exact coded_end HH.out E3 hU hC (by omega) (by omega)
        · refine (next_any base g (n + 138) _ _ hS2 (by omega)).mono ?_
          rintro e w3 ⟨y1, rfl, _, hE3, hS3⟩
          have E3 := E1.trans hE3
          have hc3 := HC.out _ E3
          simp only [cdrCells] at hc3
          go_wp2_with fail
          refine (add_any base bc g gc (n + 138) (c + 1) cm ⟨14, 0, 0, 0, 0, q, 0, r, y1⟩ _ (HH.out.go E3 hS3 (by omega))).mono ?_
          rintro e w4 ⟨rfl, hU, hC⟩
          go_wp2_with fail
          go_end0
          exact coded_end HH.out E3 hU hC (by omega) (by omega)
        · refine wp_region_rel 28 (JS base g (n+50) _) (Ext [g]) (kinds [(10, sAny), (15, sAny), (21, sAny), (26, sAny)]) (by kernel_rfl) (by kernel_rfl) JS.less ?_ (JS.start (Stm.less hS2 (by omega))) ?_
          · repeat (first | exact Stays.nil | refine Stays.cons sAny.stays ?_ | refine Stays.cons sBool.stays ?_ | refine Stays.cons sNums.stays ?_ | refine Stays.cons sBlk.stays ?_ | refine Stays.cons sIns.stays ?_ | refine Stays.cons sInss.stays ?_ | refine Stays.cons sPtr.stays ?_ | refine Stays.cons sBelow.stays ?_)
          simp only [List.take_succ_cons, List.take_zero, List.drop_succ_cons, List.drop_zero]
          repeat
            refine relAt_det rfl rfl ?_
            apply Exists.intro
            refine ⟨fun wr nr hJ => ?_, ?_⟩
            · have hcw := HC.out wr (E1.trans hJ.1); simp only [cdrCells] at hcw
              clear hJ
              (go_simp; try go_bits)
              first | rfl | exact ⟨rfl, rfl⟩
            simp only [Act.put, List.setIfInBounds_toArray, List.set_cons_succ, List.set_cons_zero]
          refine rel_draw rfl rfl ?_ ?_
          · apply Exists.intro
            apply Exists.intro
            refine ⟨fun wr => ?_, fun wr nr hJ hE => ?_⟩
            · go_simp
              first | exact ⟨rfl, rfl⟩ | rfl
            exact ⟨_, _, (by omega), next_any base g _ _ _ hJ (by omega)⟩
          intro (y1 : Int)
          simp only [Act.put, List.setIfInBounds_toArray, List.set_cons_succ, List.set_cons_zero]
          repeat
            refine relAt_det rfl rfl ?_
            apply Exists.intro
            refine ⟨fun wr nr hJ => ?_, ?_⟩
            · have hcw := HC.out wr (E1.trans hJ.1); simp only [cdrCells] at hcw
              clear hJ
              (go_simp; try go_bits)
              first | rfl | exact ⟨rfl, rfl⟩
            simp only [Act.put, List.setIfInBounds_toArray, List.set_cons_succ, List.set_cons_zero]
          refine rel_draw rfl rfl ?_ ?_
          · apply Exists.intro
            apply Exists.intro
            refine ⟨fun wr => ?_, fun wr nr hJ hE => ?_⟩
            · go_simp
              first | exact ⟨rfl, rfl⟩ | rfl
            exact ⟨_, _, (by omega), range_any base g _ _ _ _ hJ (by omega) (by omega)⟩
          intro (y2 : Int)
          simp only [Act.put, List.setIfInBounds_toArray, List.set_cons_succ, List.set_cons_zero]
          repeat
            refine relAt_det rfl rfl ?_
            apply Exists.intro
            refine ⟨fun wr nr hJ => ?_, ?_⟩
            · have hcw := HC.out wr (E1.trans hJ.1); simp only [cdrCells] at hcw
              clear hJ
              (go_simp; try go_bits)
              first | rfl | exact ⟨rfl, rfl⟩
            simp only [Act.put, List.setIfInBounds_toArray, List.set_cons_succ, List.set_cons_zero]
          refine rel_draw rfl rfl ?_ ?_
          · apply Exists.intro
            apply Exists.intro
            refine ⟨fun wr => ?_, fun wr nr hJ hE => ?_⟩
            · go_simp
              first | exact ⟨rfl, rfl⟩ | rfl
            exact ⟨_, _, (by omega), next_any base g _ _ _ hJ (by omega)⟩
          intro (y3 : Int)
          simp only [Act.put, List.setIfInBounds_toArray, List.set_cons_succ, List.set_cons_zero]
          repeat
            refine relAt_det rfl rfl ?_
            apply Exists.intro
            refine ⟨fun wr nr hJ => ?_, ?_⟩
            · have hcw := HC.out wr (E1.trans hJ.1); simp only [cdrCells] at hcw
              clear hJ
              (go_simp; try go_bits)
              first | rfl | exact ⟨rfl, rfl⟩
            simp only [Act.put, List.setIfInBounds_toArray, List.set_cons_succ, List.set_cons_zero]
          refine rel_draw rfl rfl ?_ ?_
          · apply Exists.intro
            apply Exists.intro
            refine ⟨fun wr => ?_, fun wr nr hJ hE => ?_⟩
            · go_simp
              first | exact ⟨rfl, rfl⟩ | rfl
            exact ⟨_, _, (by omega), range_any base g _ _ _ _ hJ (by omega) (by omega)⟩
          intro (y4 : Int)
          simp only [Act.put, List.setIfInBounds_toArray, List.set_cons_succ, List.set_cons_zero]
          repeat
            refine relAt_det rfl rfl ?_
            apply Exists.intro
            refine ⟨fun wr nr hJ => ?_, ?_⟩
            · skip
              clear hJ
              (go_simp; try go_bits)
              first | rfl | exact ⟨rfl, rfl⟩
            simp only [Act.put, List.setIfInBounds_toArray, List.set_cons_succ, List.set_cons_zero]
          refine relAt_nil (fun w3 hJ hF => ?_)
          clear hF
          have E3 := E1.trans hJ.1
          go_wp2_with fail
          refine (add_any base bc g gc (n + 50) (c + 1) cm ⟨18, y2, y1, 0, 0, q, 0, y3, y4⟩ _ (HH.out.go E3 hJ.2 (by omega))).mono ?_
          rintro e w4 ⟨rfl, hU, v4, l4, hC⟩
          have HC4 := hd hC.cells
          have HH4 := hd hC
          have hc4 := HC4.out w4 (Ext.refl _ _)
          simp only [cdrCells] at hc4
          clear hC
          go_wp2_with fail
          refine (flip_any base g (n + 49) _ _ HH4.out.stm (by omega)).mono ?_
          rintro e w5 ⟨b5, rfl, hE5, hS5⟩
          have hc5 := HC4.out w5 hE5
          simp only [cdrCells] at hc5
          cases b5
          · go_wp2_with fail
            go_end0
            exact coded_end HH.out E3 (hU.trans (Upto.of_ext hE5 (by have := HH4.out.blk.lt; have := HH4.out.bb; omega) (fun x hx => .inl hx))) (HH4.out.go hE5 hS5 (Nat.le_refl _)) (by omega) (by omega)
          · go_wp2_with fail
            refine wp_region_rel 12 (JS base g n _) (Ext [g]) (kinds [(10, sAny)]) (by kernel_rfl) (by kernel_rfl) JS.less ?_ (JS.start (Stm.less hS5 (by omega))) ?_
            · repeat (first | exact Stays.nil | refine Stays.cons sAny.stays ?_ | refine Stays.cons sBool.stays ?_ | refine Stays.cons sNums.stays ?_ | refine Stays.cons sBlk.stays ?_ | refine Stays.cons sIns.stays ?_ | refine Stays.cons sInss.stays ?_ | refine Stays.cons sPtr.stays ?_ | refine Stays.cons sBelow.stays ?_)
            simp only [List.take_succ_cons, List.take_zero, List.drop_succ_cons, List.drop_zero]
            repeat
              refine relAt_det rfl rfl ?_
              apply Exists.intro
              refine ⟨fun wr nr hJ => ?_, ?_⟩
              · have hcw := HC4.out wr (hE5.trans hJ.1); simp only [cdrCells] at hcw
                clear hJ
                (go_simp; try go_bits)
                first | rfl | exact ⟨rfl, rfl⟩
              simp only [Act.put, List.setIfInBounds_toArray, List.set_cons_succ, List.set_cons_zero]
            refine rel_draw rfl rfl ?_ ?_
            · apply Exists.intro
              apply Exists.intro
              refine ⟨fun wr => ?_, fun wr nr hJ hE => ?_⟩
              · go_simp
                first | exact ⟨rfl, rfl⟩ | rfl
              exact ⟨_, _, (by omega), next_any base g _ _ _ hJ (by omega)⟩
            intro (z1 : Int)
            simp only [Act.put, List.setIfInBounds_toArray, List.set_cons_succ, List.set_cons_zero]
            repeat
              refine relAt_det rfl rfl ?_
              apply Exists.intro
              refine ⟨fun wr nr hJ => ?_, ?_⟩
              · skip
                clear hJ
                (go_simp; try go_bits)
                first | rfl | exact ⟨rfl, rfl⟩
              simp only [Act.put, List.setIfInBounds_toArray, List.set_cons_succ, List.set_cons_zero]
            refine relAt_nil (fun w6 hJ hF => ?_)
            clear hF
            have E6 := hE5.trans hJ.1
            go_wp2_with fail
            refine (add_any base bc g gc n c cm ⟨19, 0, z1, 0, 0, 0, 0, 0, 0⟩ _ (HH4.out.go E6 hJ.2 (by omega))).mono ?_
            rintro e w7 ⟨rfl, hU7, hC7⟩
            go_wp2_with fail
            go_end0
            exact coded_end HH.out E3 (hU.trans ((Upto.of_ext E6 (by have := HH4.out.blk.lt; have := HH4.out.bb; omega) (fun x hx => .inl hx)).trans hU7)) hC7 (by omega) (by omega)
end Go.Proofs.Ytedabpldigcffaa
