/- The specification's fault of one instruction. -/
import Derived.Test.YtedabpldigcffaaInsF
import Derived.Lib.SlBytesConst
import Derived.Deep.DeepCutAuto
import Derived.Deep.CutBlock
namespace Go.Proofs.Ytedabpldigcffaa
open Go.RowKit
set_option linter.unusedSimpArgs false
set_option linter.unusedVariables false

set_option maxHeartbeats 4000000 in
set_option maxRecDepth 100000 in
theorem instrFault_any (m : Mc) (x : Ins) (w : World) (hb : Small m.banks) (hq : Small m.queues) (hl : Small m.lanes) :
    Calls Try.prog 79 #[.agg m.cells.toArray, .agg x.cells.toArray] w fun e w' => e = .returned (.int .i64 (instrF m x)) ∧ Ext [] w w' := by
  have HS : Hd (instrF m x = _) := hd (by unfold instrF; rfl)
  have hmc : m.cells = [.int .i64 m.main, .int .i64 m.banks, .int .i64 m.bank, .int .i64 m.lanes, .int .i64 m.queues] := rfl
  have hxc : x.cells = [.int .i64 x.op, .int .i64 x.k, .int .i64 x.d, .int .i64 x.a, .int .i64 x.b, .int .i64 x.c, .int .i64 x.p, .int .i64 x.n, .int .i64 x.m] := rfl
  have hmf : ∀ (fn : Fn) (first cap : Array Value) (w : World), (Instr.makeFunc fn first cap).run Try.prog w = .ok (.func fn first cap) w := fun _ _ _ _ => rfl
  generalize instrF m x = r at *
  rw [hmc, hxc]
  go_enter Try.func79, Try.ntmps79
  go_wp2_with fail
  refine (within2_any _ _ _ _).mono ?_
  rintro e w' ⟨rfl, rfl⟩
  cases ho : inR x.op 1 19
  · have HR : Hd (r = 4) := hd (by rw [HS.out, if_pos ho])
    clear HS ho
    go_wp2_with fail
    go_ret
    exact ⟨ret_int HR.out.symm, ((Ext.refl _ _).alloc _).alloc _⟩
  · go_wp2_with fail
    refine (fieldsOf_any m x _ ho hb hq hl).mono ?_
    rintro e w1 ⟨A, cap, rfl, hRF, hE1⟩
    have HX := hd ((Blk.new' (w.alloc (.cells m.cells.toArray 40)) 64 x.cells.toArray (w.heap.size + 1) (by simp)).ext hE1 (by simp))
    have HR := hd hRF
    have HE1 := hd ((((Ext.refl [] w).alloc _).alloc _).trans hE1)
    have hlx := HX.out.lt
    clear hRF hE1
    have hcv := Go.Lib.run_convert_bytes_const (P := Try.prog) (w1.alloc (.cells #[.slice A (fieldsS m x).length cap] 138)) 145 5 #[.int .u8 68, .int .u8 65, .int .u8 66, .int .u8 67, .int .u8 78, .int .u8 77] 6 6 (by kernel_rfl) (by kernel_rfl)
    rw [show (w1.alloc (.cells #[.slice A (fieldsS m x).length cap] 138)).heap.size = w1.heap.size + 1 by simp] at hcv
    have HL : Hd (∀ wr, Ext [] ((w1.alloc (.cells #[.slice A (fieldsS m x).length cap] 138)).alloc (.cells #[.int .u8 68, .int .u8 65, .int .u8 66, .int .u8 67, .int .u8 78, .int .u8 77] 5 (6, 7))) wr →
        (∀ k c, names[k]? = some c → wr.cell? ⟨w1.heap.size + 1, k, none⟩ = some (.int .u8 c)) ∧ wr.cell? ⟨w1.heap.size, 0, none⟩ = some (.slice A (fieldsS m x).length cap) ∧ (∀ i, wr.cell? ⟨w.heap.size + 1, i, none⟩ = x.cells.toArray[i]?) ∧ RdF wr A (fieldsS m x) ∧ Ext [] w wr) := hd (fun wr hE => by
      have hE0 : Ext [] w1 wr := (((Ext.refl [] w1).alloc _).alloc _).trans hE
      refine ⟨fun k c hk => ?_, ?_, ?_, HR.out.ext hE0 (by simp), HE1.out.trans hE0⟩
      · refine hE.held ?_ (by simp)
        have hh : ((w1.alloc (.cells #[.slice A (fieldsS m x).length cap] 138)).alloc (.cells #[.int .u8 68, .int .u8 65, .int .u8 66, .int .u8 67, .int .u8 78, .int .u8 77] 5 (6, 7))).heap[w1.heap.size + 1]? = some (.cells #[.int .u8 68, .int .u8 65, .int .u8 66, .int .u8 67, .int .u8 78, .int .u8 77] 5 (6, 7)) := by
          have h1 := Go.MapKept.heap_alloc (w1.alloc (.cells #[.slice A (fieldsS m x).length cap] 138)) (.cells #[.int .u8 68, .int .u8 65, .int .u8 66, .int .u8 67, .int .u8 78, .int .u8 77] 5 (6, 7))
          have h2 := h1.1
          rw [show (w1.alloc (.cells #[.slice A (fieldsS m x).length cap] 138)).heap.size = w1.heap.size + 1 by simp] at h2
          exact h2
        rw [cell_of_row _ _ _ _ _ _ hh]
        have hk6 : k < 6 := (List.getElem?_eq_some_iff.1 hk).1
        match k, hk6, hk with
        | 0, _, hk | 1, _, hk | 2, _, hk | 3, _, hk | 4, _, hk | 5, _, hk => cases hk; rfl
      · exact hE.held (((Blk.new w1 138 #[.slice A (fieldsS m x).length cap]).alloc _).cell 0) (by simp)
      · exact (HX.out.ext hE0 (by simp)).cell)
    go_wp2_with fail
    clear hcv
    have HFL := hd (fieldsS_length m x)
    go_loopw [23] (fun i wr => ∃ k : Nat, i = .int .i64 k ∧ k ≤ 6 ∧ Hd ((names.take k).all (nameOk (fieldsS m x) x) = true) ∧ Ext [] ((w1.alloc (.cells #[.slice A (fieldsS m x).length cap] 138)).alloc (.cells #[.int .u8 68, .int .u8 65, .int .u8 66, .int .u8 67, .int .u8 78, .int .u8 77] 5 (6, 7))) wr) (fun i _ => (6 - intOf i).toNat)
    case atStart => exact ⟨0, rfl, by omega, hd rfl, Ext.refl _ _⟩
    case round =>
      obtain ⟨k, rfl, hk, hA, hE⟩ := hrel
      by_cases hlt : k < 6
      · obtain ⟨c, hc⟩ : ∃ c, names[k]? = some c := ⟨_, List.getElem?_eq_getElem hlt⟩
        have hcm := List.mem_of_getElem? hc
        obtain ⟨h1, h2, h3, h4, h5⟩ := HL.out _ hE
        have hcell := h1 k c hc
        have hTake : Hd ((names.take (k + 1)).all (nameOk (fieldsS m x) x) = nameOk (fieldsS m x) x c) := hd (by rw [List.take_add_one, hc, List.all_append, hA.out]; simp)
        have HCM := hd hcm
        have HE := hd hE
        have H4 := hd h4
        have H3 := hd h3
        have H2 := hd h2
        have hlv := World.block_lt_of_cell? wr _ h2
        simp only at hlv
        clear h1 hc hcm hE h4 h5 h3 h2
        have HNE : Hd (nameOk (fieldsS m x) x c = false → r = 3) := hd (fun hno => by
          rw [HS.out, if_neg (by rw [ho]; decide), if_pos]
          rw [Bool.eq_false_iff, ne_eq, List.all_eq_true]
          intro hall
          rw [hall c HCM.out] at hno
          cases hno)
        go_wp2_with fail
        refine (has_any A cap (fieldsS m x) w1.heap.size c _ H4.out H2.out (by have := HFL.out; omega)).mono ?_
        rintro e w2 ⟨rfl, hE2⟩
        cases hh : hasF (fieldsS m x) c
        · obtain ⟨_, _, g3, _, _⟩ := HL.out _ (HE.out.trans hE2)
          have HE2 := hd (HE.out.trans hE2)
          clear hE2 hcell
          go_wp2_with fail
          refine (get_any (w.heap.size + 1) c _ HCM.out).mono ?_
          rintro e w3 ⟨rfl, hE3⟩
          have HE3 := hd (HE2.out.trans hE3)
          have hv : w3.cell? ⟨w.heap.size + 1, fieldIx c, none⟩ = some (.int .i64 (x.get c)) := by
            rw [(HL.out _ HE3.out).2.2.1]; exact get_cell x c HCM.out
          clear g3 hE3
          have HNK : Hd (nameOk (fieldsS m x) x c = (x.get c == 0)) := hd (by unfold nameOk; rw [hh, Bool.false_or])
          generalize x.get c = v at *
          by_cases hz : v = 0
          · subst hz
            go_wp2_with fail
            go_round
            case rel => exact ⟨k + 1, by go_num, by omega, hd (by rw [hTake.out, HNK.out]; rfl), HE3.out⟩
            case measure => simp [intOf]; omega
          · have hz2 : (v == 0) = false := by simpa using hz
            have HR3 := hd (HNE.out (by rw [HNK.out, hz2]))
            clear HS HNE
            go_wp2_with fail
            go_ret
            exact ⟨ret_int HR3.out.symm, (HL.out _ HE3.out).2.2.2.2⟩
        · have HE2 := hd (HE.out.trans hE2)
          clear hE2 hcell
          go_wp2_with fail
          go_round
          case rel => exact ⟨k + 1, by go_num, by omega, hd (by rw [hTake.out]; unfold nameOk; rw [hh]; rfl), HE2.out⟩
          case measure => simp [intOf]; omega
      · have h6 : k = 6 := by omega
        subst h6
        have HAll : Hd (r = if kpBad x then 3 else if (fieldsS m x).all (fun f => inR (x.get f.name) f.low f.high) = false then 9 else if lastBad x then 9 else 0) := hd (by
          rw [HS.out, if_neg (by rw [ho]; decide), if_neg]
          have : names.all (nameOk (fieldsS m x) x) = true := hA.out
          rw [this]; decide)
        obtain ⟨_, _, g3, _, g5⟩ := HL.out _ hE
        have HE := hd hE
        rw [hxc] at g3
        have hlx2 : w.heap.size + 1 < wr.heap.size := Nat.lt_of_lt_of_le hlx (by have := hE.size; simp at this; omega)
        clear hE hA HS hk hlt g5
        go_upto_region 11 with fail
        go_cut [9] (fun s9 wx => s9 = .bool (countedB x.op) ∧ wx = wr)
        case first =>
          by_cases h2 : x.op = 2
          · have h2b : (x.op == 2) = true := by simpa using h2
            go_wp2_with fail
            go_meet
            exact ⟨by simp [countedB, h2b], rfl⟩
          · have h2b : (x.op == 2) = false := by simpa using h2
            go_wp2_with fail
            go_meet
            exact ⟨by simp [countedB, h2b], rfl⟩
        case rest =>
          obtain ⟨rfl, rfl⟩ := hcut
          go_upto_region 12 with fail
          go_cut [9, 69] (fun s9 s69 wx => s9 = .bool (countedB x.op) ∧ s69 = .bool (kpBad x) ∧ Ext [] ((w1.alloc (.cells #[.slice A (fieldsS m x).length cap] 138)).alloc (.cells #[.int .u8 68, .int .u8 65, .int .u8 66, .int .u8 67, .int .u8 78, .int .u8 77] 5 (6, 7))) wx)
          case first =>
            have HK : Hd (kpBad x = ((!countedB x.op && x.op != 18 && x.k != 0) || (!condB x.op && x.p != 0))) := hd rfl
            generalize kpBad x = kb at *
            cases hcb : countedB x.op <;> cases h18 : (x.op != 18) <;> cases hk0 : (x.k != 0) <;> cases hcd : condB x.op <;> cases hp0 : (x.p != 0) <;> (
              have HKK := hd HK.out
              rw [hcb, h18, hk0, hcd, hp0] at HK
              clear HKK
              go_wp2_with (go_at_call 98; refine (conditional_any _ _).mono ?_; rintro e w4 ⟨rfl, hE4⟩; have q4 := (HL.out _ (HE.out.trans hE4)).2.2.1; rw [hxc] at q4; rw [hcd])
              go_meet
              first
                | exact ⟨by rw [hcb], by rw [HK.out]; rfl, HE.out⟩
                | exact ⟨by rw [hcb], by rw [HK.out]; rfl, HE.out.trans hE4⟩)
          case rest =>
            obtain ⟨rfl, rfl, hE2⟩ := hcut
            have HE2 := hd hE2
            obtain ⟨_, h2, g4, _, _⟩ := HL.out _ hE2
            have hlx3 : w.heap.size + 1 < wc.heap.size := Nat.lt_of_lt_of_le hlx (by have := hE2.size; simp at this; omega)
            have hlv := World.block_lt_of_cell? wc _ h2
            simp only at hlv
            rw [hxc] at g4
            clear hE2 g3 hlx2
            cases hkb : kpBad x
            · have HR2 : Hd (r = if (fieldsS m x).all (fun f => inR (x.get f.name) f.low f.high) = false then 9 else if lastBad x then 9 else 0) := hd (by rw [HAll.out, if_neg (by rw [hkb]; decide)])
              clear HAll hkb
              go_wp2_with fail
              clear g4 hlx3 hlv h2
              go_loopw [72] (fun i wq => ∃ k : Nat, i = .int .i64 k ∧ k ≤ (fieldsS m x).length ∧ Hd (((fieldsS m x).take k).all (fun f => inR (x.get f.name) f.low f.high) = true) ∧ Ext [] ((w1.alloc (.cells #[.slice A (fieldsS m x).length cap] 138)).alloc (.cells #[.int .u8 68, .int .u8 65, .int .u8 66, .int .u8 67, .int .u8 78, .int .u8 77] 5 (6, 7))) wq) (fun i _ => ((fieldsS m x).length - intOf i).toNat)
              case atStart => exact ⟨0, rfl, by omega, hd rfl, HE2.out⟩
              case round =>
                obtain ⟨k, rfl, hk, hA, hE⟩ := hrel
                have hfl := HFL.out
                by_cases hlt : k < (fieldsS m x).length
                · obtain ⟨f, hf⟩ : ∃ f, (fieldsS m x)[k]? = some f := ⟨_, List.getElem?_eq_getElem hlt⟩
                  have HF := hd hf
                  have HNM := hd (fieldsS_names m x f (List.mem_of_getElem? hf))
                  obtain ⟨_, _, _, g4, _⟩ := HL.out _ hE
                  rcases g4 with h0 | ⟨b, o, rfl, hc⟩
                  · rw [h0] at hlt; simp at hlt
                  · have h0 := hc k f hf 0 _ rfl
                    have h1 := hc k f hf 1 _ rfl
                    have h2 := hc k f hf 2 _ rfl
                    have h3 := hc k f hf 3 _ rfl
                    simp only [Nat.add_zero] at h0
                    have HE3 := hd hE
                    clear hc hf hE
                    go_wp2_with fail
                    rename World => wq
                    refine wp_region_rel 11 (JE _) (Ext []) (kinds [(2, sFix (.pointer (some ⟨w.heap.size + 1, fieldIx f.name, none⟩))), (9, sFix (.bool (inR (x.get f.name) f.low f.high)))]) (by kernel_rfl) (by kernel_rfl) JE.less ?_ JE.start ?_
                    · repeat (first | exact Stays.nil | refine Stays.cons sFix.stays ?_)
                    simp only [List.take_succ_cons, List.take_zero, List.drop_succ_cons, List.drop_zero]
                    repeat
                      refine relAt_det rfl rfl ?_
                      apply Exists.intro
                      refine ⟨fun wr nr hJ => ?_, ?_⟩
                      · have q1 := ((Blk.new wq 142 #[.int .u8 f.name, .string f.kind, .int .i64 f.low, .int .i64 f.high]).ext hJ (by simp)).cell
                        clear hJ
                        (go_simp; try go_bits)
                        first | rfl | exact ⟨rfl, rfl⟩
                      simp only [Act.put, List.setIfInBounds_toArray, List.set_cons_succ, List.set_cons_zero]
                    refine rel_fix rfl rfl ?_ ?_
                    · apply Exists.intro
                      apply Exists.intro
                      refine ⟨fun wr => ?_, fun wr nr hJ => ?_⟩
                      · go_simp
                        first | exact ⟨rfl, rfl⟩ | rfl
                      · exact get_any (w.heap.size + 1) f.name _ HNM.out
                    simp only [Act.put, List.setIfInBounds_toArray, List.set_cons_succ, List.set_cons_zero]
                    repeat
                      refine relAt_det rfl rfl ?_
                      apply Exists.intro
                      refine ⟨fun wr nr hJ => ?_, ?_⟩
                      · have q1 := ((Blk.new wq 142 #[.int .u8 f.name, .string f.kind, .int .i64 f.low, .int .i64 f.high]).ext hJ (by simp)).cell; have q2 := ((HL.out wr (HE3.out.trans (((Ext.refl _ _).alloc _).trans hJ))).2.2.1 (fieldIx f.name)).trans (get_cell x f.name HNM.out)
                        clear hJ
                        (go_simp; try go_bits)
                        first | rfl | exact ⟨rfl, rfl⟩
                      simp only [Act.put, List.setIfInBounds_toArray, List.set_cons_succ, List.set_cons_zero]
                    refine rel_fix rfl rfl ?_ ?_
                    · apply Exists.intro
                      apply Exists.intro
                      refine ⟨fun wr => ?_, fun wr nr hJ => ?_⟩
                      · go_simp
                        first | exact ⟨rfl, rfl⟩ | rfl
                      · exact (within2_any _ _ _ _).mono (fun e w' h => ⟨h.1, h.2 ▸ Ext.refl _ _⟩)
                    simp only [Act.put, List.setIfInBounds_toArray, List.set_cons_succ, List.set_cons_zero]
                    repeat
                      refine relAt_det rfl rfl ?_
                      apply Exists.intro
                      refine ⟨fun wr nr hJ => ?_, ?_⟩
                      · skip
                        clear hJ
                        (go_simp; try go_bits)
                        first | rfl | exact ⟨rfl, rfl⟩
                      simp only [Act.put, List.setIfInBounds_toArray, List.set_cons_succ, List.set_cons_zero]
                    refine relAt_nil (fun wy hJ hF => ?_)
                    have HJ := hd (HE3.out.trans (((Ext.refl _ _).alloc _).trans hJ))
                    clear hF
                    have hfn := List.getElem?_eq_some_iff.1 HF.out
                    cases hin : inR (x.get f.name) f.low f.high
                    · have HR3 : Hd (r = 9) := hd (by
                        rw [HR2.out, if_pos]
                        rw [List.all_eq_false]
                        exact ⟨f, List.mem_of_getElem? HF.out, by rw [hin]; decide⟩)
                      clear hfn
                      go_wp2_with fail
                      go_ret
                      exact ⟨ret_int HR3.out.symm, (HL.out _ HJ.out).2.2.2.2⟩
                    · have HT : Hd (((fieldsS m x).take (k + 1)).all (fun f => inR (x.get f.name) f.low f.high) = true) := hd (by
                        rw [List.take_add_one, HF.out, List.all_append, hA.out]; simp [hin])
                      clear hfn
                      go_wp2_with fail
                      go_round
                      case rel => exact ⟨k + 1, by go_num, by omega, HT, HJ.out⟩
                      case measure => simp [intOf]; omega
                · have hk2 : k = (fieldsS m x).length := by omega
                  have HR3 : Hd (r = if lastBad x then 9 else 0) := hd (by
                    rw [HR2.out, if_neg]
                    have := hA.out
                    rw [hk2, List.take_length] at this
                    rw [this]; decide)
                  obtain ⟨_, _, g4, _, _⟩ := HL.out _ hE
                  rw [hxc] at g4
                  have hlx4 : w.heap.size + 1 < wr.heap.size := Nat.lt_of_lt_of_le hlx (by have := hE.size; simp at this; omega)
                  have HE3 := hd hE
                  clear hE hA hk2
                  have HB : Hd (lastBad x = ((countedB x.op && (!inR x.k 4 15 || (x.k == 12 && decide (x.m < x.n)))) || (x.op == 18 && !inR x.k 1 2) || !inR x.p 0 16)) := hd rfl
                  have HE4 := hd (HL.out _ HE3.out).2.2.2.2
                  clear HE3 HE2 HE HL
                  cases hcb : countedB x.op
                  · skip
                    cases h18 : (x.op == 18)
                    · cases hpr : inR x.p 0 16
                      · skip
                        have HV : Hd (r = 9) := hd (by rw [HR3.out, HB.out]; simp [hcb, h18, hpr])
                        clear HR3 HB
                        go_wp2_with (first | (go_at_call 99; refine (isOp_any _ _).mono ?_; rintro e w4 ⟨rfl, rfl⟩; rw [hio]) | (go_at_call 53; refine (within2_any _ _ _ _).mono ?_; rintro e w4 ⟨rfl, rfl⟩; first | rw [hkr] | rw [hpr]))
                        go_ret
                        exact ⟨ret_int HV.out.symm, HE4.out⟩
                      · skip
                        have HV : Hd (r = 0) := hd (by rw [HR3.out, HB.out]; simp [hcb, h18, hpr])
                        clear HR3 HB
                        go_wp2_with (first | (go_at_call 99; refine (isOp_any _ _).mono ?_; rintro e w4 ⟨rfl, rfl⟩; rw [hio]) | (go_at_call 53; refine (within2_any _ _ _ _).mono ?_; rintro e w4 ⟨rfl, rfl⟩; first | rw [hkr] | rw [hpr]))
                        go_ret
                        exact ⟨ret_int HV.out.symm, HE4.out⟩
                    · cases hkr : inR x.k 1 2
                      · skip
                        have HV : Hd (r = 9) := hd (by rw [HR3.out, HB.out]; simp [hcb, h18, hkr])
                        clear HR3 HB
                        go_wp2_with (first | (go_at_call 99; refine (isOp_any _ _).mono ?_; rintro e w4 ⟨rfl, rfl⟩; rw [hio]) | (go_at_call 53; refine (within2_any _ _ _ _).mono ?_; rintro e w4 ⟨rfl, rfl⟩; first | rw [hkr] | rw [hpr]))
                        go_ret
                        exact ⟨ret_int HV.out.symm, HE4.out⟩
                      · cases hpr : inR x.p 0 16
                        · skip
                          have HV : Hd (r = 9) := hd (by rw [HR3.out, HB.out]; simp [hcb, h18, hkr, hpr])
                          clear HR3 HB
                          go_wp2_with (first | (go_at_call 99; refine (isOp_any _ _).mono ?_; rintro e w4 ⟨rfl, rfl⟩; rw [hio]) | (go_at_call 53; refine (within2_any _ _ _ _).mono ?_; rintro e w4 ⟨rfl, rfl⟩; first | rw [hkr] | rw [hpr]))
                          go_ret
                          exact ⟨ret_int HV.out.symm, HE4.out⟩
                        · skip
                          have HV : Hd (r = 0) := hd (by rw [HR3.out, HB.out]; simp [hcb, h18, hkr, hpr])
                          clear HR3 HB
                          go_wp2_with (first | (go_at_call 99; refine (isOp_any _ _).mono ?_; rintro e w4 ⟨rfl, rfl⟩; rw [hio]) | (go_at_call 53; refine (within2_any _ _ _ _).mono ?_; rintro e w4 ⟨rfl, rfl⟩; first | rw [hkr] | rw [hpr]))
                          go_ret
                          exact ⟨ret_int HV.out.symm, HE4.out⟩
                  · cases hio : inR x.k 4 15
                    · skip
                      have HV : Hd (r = 9) := hd (by rw [HR3.out, HB.out]; simp [hcb, hio])
                      clear HR3 HB
                      go_wp2_with (first | (go_at_call 99; refine (isOp_any _ _).mono ?_; rintro e w4 ⟨rfl, rfl⟩; rw [hio]) | (go_at_call 53; refine (within2_any _ _ _ _).mono ?_; rintro e w4 ⟨rfl, rfl⟩; first | rw [hkr] | rw [hpr]))
                      go_ret
                      exact ⟨ret_int HV.out.symm, HE4.out⟩
                    · cases hk12 : (x.k == 12)
                      · skip
                        cases h18 : (x.op == 18)
                        · cases hpr : inR x.p 0 16
                          · skip
                            have HV : Hd (r = 9) := hd (by rw [HR3.out, HB.out]; simp [hcb, hio, hk12, h18, hpr])
                            clear HR3 HB
                            go_wp2_with (first | (go_at_call 99; refine (isOp_any _ _).mono ?_; rintro e w4 ⟨rfl, rfl⟩; rw [hio]) | (go_at_call 53; refine (within2_any _ _ _ _).mono ?_; rintro e w4 ⟨rfl, rfl⟩; first | rw [hkr] | rw [hpr]))
                            go_ret
                            exact ⟨ret_int HV.out.symm, HE4.out⟩
                          · skip
                            have HV : Hd (r = 0) := hd (by rw [HR3.out, HB.out]; simp [hcb, hio, hk12, h18, hpr])
                            clear HR3 HB
                            go_wp2_with (first | (go_at_call 99; refine (isOp_any _ _).mono ?_; rintro e w4 ⟨rfl, rfl⟩; rw [hio]) | (go_at_call 53; refine (within2_any _ _ _ _).mono ?_; rintro e w4 ⟨rfl, rfl⟩; first | rw [hkr] | rw [hpr]))
                            go_ret
                            exact ⟨ret_int HV.out.symm, HE4.out⟩
                        · cases hkr : inR x.k 1 2
                          · skip
                            have HV : Hd (r = 9) := hd (by rw [HR3.out, HB.out]; simp [hcb, hio, hk12, h18, hkr])
                            clear HR3 HB
                            go_wp2_with (first | (go_at_call 99; refine (isOp_any _ _).mono ?_; rintro e w4 ⟨rfl, rfl⟩; rw [hio]) | (go_at_call 53; refine (within2_any _ _ _ _).mono ?_; rintro e w4 ⟨rfl, rfl⟩; first | rw [hkr] | rw [hpr]))
                            go_ret
                            exact ⟨ret_int HV.out.symm, HE4.out⟩
                          · cases hpr : inR x.p 0 16
                            · skip
                              have HV : Hd (r = 9) := hd (by rw [HR3.out, HB.out]; simp [hcb, hio, hk12, h18, hkr, hpr])
                              clear HR3 HB
                              go_wp2_with (first | (go_at_call 99; refine (isOp_any _ _).mono ?_; rintro e w4 ⟨rfl, rfl⟩; rw [hio]) | (go_at_call 53; refine (within2_any _ _ _ _).mono ?_; rintro e w4 ⟨rfl, rfl⟩; first | rw [hkr] | rw [hpr]))
                              go_ret
                              exact ⟨ret_int HV.out.symm, HE4.out⟩
                            · skip
                              have HV : Hd (r = 0) := hd (by rw [HR3.out, HB.out]; simp [hcb, hio, hk12, h18, hkr, hpr])
                              clear HR3 HB
                              go_wp2_with (first | (go_at_call 99; refine (isOp_any _ _).mono ?_; rintro e w4 ⟨rfl, rfl⟩; rw [hio]) | (go_at_call 53; refine (within2_any _ _ _ _).mono ?_; rintro e w4 ⟨rfl, rfl⟩; first | rw [hkr] | rw [hpr]))
                              go_ret
                              exact ⟨ret_int HV.out.symm, HE4.out⟩
                      · by_cases hnm : x.m < x.n
                        · skip
                          have HV : Hd (r = 9) := hd (by rw [HR3.out, HB.out]; simp [hcb, hio, hk12, hnm])
                          clear HR3 HB
                          go_wp2_with (first | (go_at_call 99; refine (isOp_any _ _).mono ?_; rintro e w4 ⟨rfl, rfl⟩; rw [hio]) | (go_at_call 53; refine (within2_any _ _ _ _).mono ?_; rintro e w4 ⟨rfl, rfl⟩; first | rw [hkr] | rw [hpr]))
                          go_ret
                          exact ⟨ret_int HV.out.symm, HE4.out⟩
                        · have hnm2 : decide (x.m < x.n) = false := by simpa using hnm
                          cases h18 : (x.op == 18)
                          · cases hpr : inR x.p 0 16
                            · skip
                              have HV : Hd (r = 9) := hd (by rw [HR3.out, HB.out]; simp [hcb, hio, hk12, hnm2, h18, hpr])
                              clear HR3 HB
                              go_wp2_with (first | (go_at_call 99; refine (isOp_any _ _).mono ?_; rintro e w4 ⟨rfl, rfl⟩; rw [hio]) | (go_at_call 53; refine (within2_any _ _ _ _).mono ?_; rintro e w4 ⟨rfl, rfl⟩; first | rw [hkr] | rw [hpr]))
                              go_ret
                              exact ⟨ret_int HV.out.symm, HE4.out⟩
                            · skip
                              have HV : Hd (r = 0) := hd (by rw [HR3.out, HB.out]; simp [hcb, hio, hk12, hnm2, h18, hpr])
                              clear HR3 HB
                              go_wp2_with (first | (go_at_call 99; refine (isOp_any _ _).mono ?_; rintro e w4 ⟨rfl, rfl⟩; rw [hio]) | (go_at_call 53; refine (within2_any _ _ _ _).mono ?_; rintro e w4 ⟨rfl, rfl⟩; first | rw [hkr] | rw [hpr]))
                              go_ret
                              exact ⟨ret_int HV.out.symm, HE4.out⟩
                          · cases hkr : inR x.k 1 2
                            · skip
                              have HV : Hd (r = 9) := hd (by rw [HR3.out, HB.out]; simp [hcb, hio, hk12, hnm2, h18, hkr])
                              clear HR3 HB
                              go_wp2_with (first | (go_at_call 99; refine (isOp_any _ _).mono ?_; rintro e w4 ⟨rfl, rfl⟩; rw [hio]) | (go_at_call 53; refine (within2_any _ _ _ _).mono ?_; rintro e w4 ⟨rfl, rfl⟩; first | rw [hkr] | rw [hpr]))
                              go_ret
                              exact ⟨ret_int HV.out.symm, HE4.out⟩
                            · cases hpr : inR x.p 0 16
                              · skip
                                have HV : Hd (r = 9) := hd (by rw [HR3.out, HB.out]; simp [hcb, hio, hk12, hnm2, h18, hkr, hpr])
                                clear HR3 HB
                                go_wp2_with (first | (go_at_call 99; refine (isOp_any _ _).mono ?_; rintro e w4 ⟨rfl, rfl⟩; rw [hio]) | (go_at_call 53; refine (within2_any _ _ _ _).mono ?_; rintro e w4 ⟨rfl, rfl⟩; first | rw [hkr] | rw [hpr]))
                                go_ret
                                exact ⟨ret_int HV.out.symm, HE4.out⟩
                              · skip
                                have HV : Hd (r = 0) := hd (by rw [HR3.out, HB.out]; simp [hcb, hio, hk12, hnm2, h18, hkr, hpr])
                                clear HR3 HB
                                go_wp2_with (first | (go_at_call 99; refine (isOp_any _ _).mono ?_; rintro e w4 ⟨rfl, rfl⟩; rw [hio]) | (go_at_call 53; refine (within2_any _ _ _ _).mono ?_; rintro e w4 ⟨rfl, rfl⟩; first | rw [hkr] | rw [hpr]))
                                go_ret
                                exact ⟨ret_int HV.out.symm, HE4.out⟩
            · have HR2 : Hd (r = 3) := hd (by rw [HAll.out, if_pos hkb])
              clear HAll hkb
              go_wp2_with fail
              go_ret
              exact ⟨ret_int HR2.out.symm, (HL.out _ HE2.out).2.2.2.2⟩
end Go.Proofs.Ytedabpldigcffaa
