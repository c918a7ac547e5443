/- Registers are as specified: the walk. -/
import Derived.Deep.CutBlock
import Derived.Test.YtedabpldigcffaaRegF
import Derived.Test.YtedabpldigcffaaRegC
import Derived.Test.YtedabpldigcffaaRegA
import Derived.Test.YtedabpldigcffaaChipK
namespace Go.Proofs.Ytedabpldigcffaa
open Go.RowKit
set_option linter.unusedSimpArgs false
set_option linter.unusedVariables false
attribute [local irreducible] relAt

/-- A stream over the argument. -/
theorem stream_over (A : Option Addr) (len cap : Nat) (w : World) (hlen : len ≤ 9223372036854775807) (hA : 0 < len → ∃ b o, A = some ⟨b, o, none⟩ ∧ b < w.heap.size ∧ ∀ i, i < len → ∃ x, w.cell? ⟨b, o + i, none⟩ = some (.int .i64 x)) :
    Stm (w.alloc (.cells #[.slice A len cap, .int .i64 0] 25)) w.heap.size w.heap.size 1000000000 :=
  ⟨A, len, cap, 0, Blk.new _ _ _, Nat.le_refl _, Int.le_refl _, by omega, hlen, fun h => by
    obtain ⟨b, o, h1, h2, h3⟩ := hA h
    refine ⟨b, o, h1, h2, fun i hi => ?_⟩
    obtain ⟨x, hx⟩ := h3 i hi
    exact ⟨x, ((Ext.refl [] w).alloc _).held hx (by simp)⟩⟩

theorem nums_ot {outs : List Int} {j : Nat} (h : j < outs.length) : (Nums outs)[j]? = some (.int .i64 (ot outs j)) := by
  unfold Nums ot
  simp [List.getD, h]
/-- The error so far. -/
def wantE (ls : List Lf) (k : Nat) : Int := if (List.range k).any (badB ls) then 1 else 0
theorem wantE_succ (ls : List Lf) (k : Nat) : wantE ls (k + 1) = if badB ls k then 1 else wantE ls k := by
  unfold wantE
  rw [List.range_succ, List.any_append]
  cases h : badB ls k <;> simp [h]
theorem wantE_cases (ls : List Lf) (k : Nat) : wantE ls k = 0 ∨ wantE ls k = 1 := by
  unfold wantE; split <;> simp
theorem regE_want (ls : List Lf) (count : Int) : regE ls count = if wantE ls ls.length ≠ 0 then 1 else if count < 1 ∨ 64 < count then 9 else if count < (crowdS ls : Int) then 16 else 0 := by
  unfold regE wantE
  by_cases h : (List.range ls.length).any (badB ls) = true
  · simp only [h, if_true]
    simp
  · simp only [h]
    simp

set_option maxHeartbeats 8000000 in
set_option maxRecDepth 100000 in
theorem chipRegisters_any (A : Option Addr) (len cap : Nat) (w : World) (hlen : len ≤ 9223372036854775807) (hA : 0 < len → ∃ b o, A = some ⟨b, o, none⟩ ∧ b < w.heap.size ∧ ∀ i, i < len → ∃ x, w.cell? ⟨b, o + i, none⟩ = some (.int .i64 x)) :
    Calls Try.prog 5 #[.slice A len cap] w fun e w' => e = .returned (.bool true) ∧ Ext [] w w' := by
  have HST := hd (stream_over A len cap w hlen hA)
  clear hA
  go_enter Try.func5, Try.ntmps5
  go_wp2_with fail
  refine (lives_any w.heap.size w.heap.size 1000 _ (HST.out.less (by omega))).mono ?_
  rintro e w1 ⟨A2, cap2, n, ls, rfl, hx, hr, hsm, hn, hb, hnc, hE, hS⟩
  have HE1 : Hd (Ext [] w w1) := hd (((Ext.refl [] w).alloc _).step hE (fun i hi => .inr (by rw [List.mem_singleton.1 hi]; exact Nat.le_refl _)))
  have HS1 := hd hS
  have HR1 := hd hr
  have HL := hd hx
  have HSM := hd hsm
  have hgw1 : w.heap.size < w1.heap.size := hS.lt
  have HA2 : Hd (∀ a, A2 = some a → a.block ∉ [w.heap.size]) := hd (fun a ha hm => by have := hb a ha; rw [List.mem_singleton.1 hm] at this; simp at this; omega)
  clear hE hS hr hx hsm hb
  go_wp2_with fail
  refine (pick_any w.heap.size w.heap.size 900 w1.heap.size 9 3 [1, 2, 3, 4, 6, 8, 64, 0, 65] _ ((HS1.out.less (by omega)).alloc _) (Blk.new _ _ _) (by omega) (by decide)).mono ?_
  rintro e w2 ⟨count, rfl, hcm, hE2, hS2⟩
  have HE12 := hd (((Ext.refl [w.heap.size] w1).alloc (.cells (Nums [1, 2, 3, 4, 6, 8, 64, 0, 65]) 3)).trans hE2)
  have HR2 := hd (HR1.out.ext HE12.out HA2.out)
  have HE2 : Hd (Ext [] w w2) := hd (HE1.out.step HE12.out (fun i hi => .inr (by rw [List.mem_singleton.1 hi]; exact Nat.le_refl _)))
  have HCM := hd hcm
  clear hE2 hS2 hcm HST HS1
  go_wp2_with fail
  refine (registers_any A2 cap2 n ls count w2 HR2.out HL.out HSM.out hn).mono ?_
  rintro e w3 ⟨hres, hE3⟩
  have HE23 := hd hE3
  have HR3 := hd (HR2.out.ext hE3 (by simp))
  have HE3 := hd (HE2.out.trans hE3)
  clear hE3
  obtain ⟨v, ev, hev, rfl, HV⟩ : ∃ v ev, ev = regE ls count ∧ e = .returned (.tuple #[v, .int .i64 ev]) ∧ Hd ((ev ≠ 0 ∧ v = .slice none 0 0) ∨ (ev = 0 ∧ ∃ U outs, v = .slice (some ⟨U, 0, none⟩) n n ∧ Blk w3 U 3 (Nums outs) ∧ GoodR ls outs)) := by
    rcases hres with ⟨h1, h2⟩ | ⟨h1, U, outs, h2, h3, h4⟩
    · exact ⟨_, _, rfl, h2, hd (.inl ⟨h1, rfl⟩)⟩
    · exact ⟨_, 0, h1.symm, h2, hd (.inr ⟨rfl, U, outs, rfl, h3, h4⟩)⟩
  have HEV := hd hev
  clear hres hev
  have HRW := hd (fun W (hW : Ext [] w3 W) => HR3.out.ext hW (by simp))
  have HCR := hd (fun W (hW : Ext [] w3 W) => crowd_any A2 cap2 n ls W (HRW.out W hW) HL.out (by omega))
  go_wp2_with fail
  go_loopw [8, 32] (fun e i wr => ∃ k : Nat, i = .int .i64 k ∧ k ≤ n ∧ Hd (e = .int .i64 (wantE ls k)) ∧ Hd (Ext [] w3 wr)) (fun _ i _ => (n - intOf i).toNat)
  case atStart => exact ⟨0, rfl, Nat.zero_le _, hd rfl, hd (Ext.refl _ _)⟩
  case round =>
    obtain ⟨k, rfl, hk, HW, HE⟩ := hrel
    have hwe := HW.out
    subst hwe
    clear HW
    rename World => w4
    by_cases hlt : k < n
    · obtain ⟨b, o, rfl, hb, h0, h1, h2, h3⟩ := (HRW.out w4 HE.out).four (k := k) (by have := HL.out; omega)
      have hbb : badB ls k = (decide ((lf ls k).fr < 0) || decide ((lf ls k).tt < (lf ls k).fr)) := rfl
      have HBB := hd hbb
      have HWS := hd (wantE_succ ls k)
      clear hbb
      generalize (lf ls k).nd = x0 at h0
      generalize (lf ls k).fr = x1 at h1 HBB
      generalize (lf ls k).tt = x2 at h2 HBB
      generalize (lf ls k).sz = x3 at h3
      by_cases c1 : x1 < 0
      · have HV2 : Hd (wantE ls (k + 1) = 1) := hd (by rw [HWS.out, HBB.out]; simp [c1])
        have c1b : decide (x1 < 0) = true := by simpa using c1
        go_wp2_with fail
        go_roundw
        case rel => exact ⟨k + 1, by go_num, by omega, hd (by rw [HV2.out]), hd (HE.out.alloc _)⟩
        case measure => simp [intOf]; omega
      · have c1b : decide (x1 < 0) = false := by simpa using c1
        by_cases c2 : x2 < x1
        · have HV2 : Hd (wantE ls (k + 1) = 1) := hd (by rw [HWS.out, HBB.out]; simp [c2])
          have c2b : decide (x2 < x1) = true := by simpa using c2
          go_wp2_with fail
          go_roundw
          case rel => exact ⟨k + 1, by go_num, by omega, hd (by rw [HV2.out]), hd (HE.out.alloc _)⟩
          case measure => simp [intOf]; omega
        · have c2b : decide (x2 < x1) = false := by simpa using c2
          have HV2 : Hd (wantE ls (k + 1) = wantE ls k) := hd (by rw [HWS.out, HBB.out]; simp [c1, c2])
          go_wp2_with fail
          go_roundw
          case rel => exact ⟨k + 1, by go_num, by omega, hd (by rw [HV2.out]), hd (HE.out.alloc _)⟩
          case measure => simp [intOf]; omega
    · have hkn : k = n := by omega
      subst hkn
      have HRG : Hd (ev = if wantE ls k ≠ 0 then 1 else if count < 1 ∨ 64 < count then 9 else if count < (crowdS ls : Int) then 16 else 0) := hd (by
        have := regE_want ls count
        rw [HL.out] at this
        rw [HEV.out]; exact this)
      have HWC := hd (wantE_cases ls k)
      have HCB : Hd (crowdS ls ≤ k) := hd (by have := crowdS_le ls; rw [HL.out] at this; exact this)
      generalize wantE ls k = we at *
      go_wp2_with fail
      refine (HCR.out w4 HE.out).mono ?_
      rintro e w5 ⟨rfl, hE5⟩
      have HE5 := hd (HE.out.trans hE5)
      have HCW : Hd (∀ W, Ext [] w5 W → Calls Try.prog 13 #[] W fun e w' => e = .returned (.bool true) ∧ Ext [] W w') := hd fun W _ => chips_any W
      clear hE5 HCR
      generalize hC : crowdS ls = C at *
      have HC := hd hC
      clear hC
      go_upto_block 2 with fail
      go_cut [8] (fun s8 wx => s8 = .int .i64 ev ∧ wx = w5)
      case first =>
        have hRG := HRG.out
        have hWC := HWC.out
        rcases hWC with rfl | rfl
        · by_cases c1 : count < 1
          · have hv : ev = 9 := by rw [hRG, if_neg (by decide), if_pos (.inl c1)]
            subst hv
            have c1b : decide (count < 1) = true := by simpa using c1
            clear hRG
            go_wp2_with fail
            go_meet
            exact ⟨rfl, rfl⟩
          have c1b : decide (count < 1) = false := by simpa using c1
          by_cases c2 : 64 < count
          · have hv : ev = 9 := by rw [hRG, if_neg (by decide), if_pos (.inr c2)]
            subst hv
            have c2b : decide (64 < count) = true := by simpa using c2
            clear hRG
            go_wp2_with fail
            go_meet
            exact ⟨rfl, rfl⟩
          have c2b : decide (64 < count) = false := by simpa using c2
          by_cases c3 : count < (C : Int)
          · have hv : ev = 16 := by rw [hRG, if_neg (by decide), if_neg (by omega), if_pos c3]
            subst hv
            clear hRG
            go_wp2_with fail
            go_meet
            exact ⟨rfl, rfl⟩
          · have hv : ev = 0 := by rw [hRG, if_neg (by decide), if_neg (by omega), if_neg c3]
            subst hv
            clear hRG
            go_wp2_with fail
            go_meet
            exact ⟨rfl, rfl⟩
        · have hv : ev = 1 := by rw [hRG, if_pos (by decide)]
          subst hv
          clear hRG
          go_wp2_with fail
          go_meet
          exact ⟨rfl, rfl⟩
      case rest =>
        obtain ⟨rfl, rfl⟩ := hcut
        clear HRG HWC HEV
        by_cases hv0 : ev = 0
        · obtain ⟨-, U, outs, rfl, hB, hG⟩ := HV.out.resolve_left (fun h => h.1 hv0)
          subst hv0
          have HB := hd hB
          have HG := hd hG
          clear HV hB hG
          go_wp2_with fail
          refine (HCW.out _ (Ext.refl _ _)).mono ?_
          rintro e w6 ⟨rfl, hE6⟩
          have HE6 := hd (HE5.out.trans hE6)
          clear hE6
          have hGl := HG.out.1
          have hGb := HG.out.2.1
          have hGd := HG.out.2.2
          rw [HL.out] at hGl hGb hGd
          rw [HC.out] at hGb
          have HGL := hd hGl
          have HGB := hd hGb
          have HGD := hd hGd
          clear hGl hGb hGd HC
          go_wp2_with fail
          go_loopw [91] (fun i wr => ∃ j : Nat, i = .int .i64 j ∧ j ≤ k ∧ Hd (Ext [] w3 wr)) (fun i _ => (k - intOf i).toNat)
          case atStart => exact ⟨0, rfl, Nat.zero_le _, HE6⟩
          case round =>
            obtain ⟨j, rfl, hj, HE7⟩ := hrel
            rename World => w7
            by_cases hlt7 : j < k
            · obtain ⟨b, o, rfl, hb, h0, h1, h2, h3⟩ := (HRW.out w7 HE7.out).four (k := j) (by have := HL.out; omega)
              have hoj := HB.out.ext HE7.out (by simp)
              have u1 := hoj.cell j
              have hUl := hoj.lt
              have hbd := HGB.out j hlt7
              have hcj0 : (Nums outs)[j]? = some (.int .i64 (ot outs j)) := nums_ot (by rw [HGL.out]; exact hlt7)
              rw [hcj0] at u1
              have HCJ := hd u1
              have HGJ := hd (fun i (hi : i < j) => HGD.out j i hi hlt7)
              have HV0 := hd (Blk.new w7 53 #[.int .i64 (lf ls j).nd, .int .i64 (lf ls j).fr, .int .i64 (lf ls j).tt, .int .i64 (lf ls j).sz])
              have HE70 := hd ((Ext.refl [] w7).alloc (.cells #[.int .i64 (lf ls j).nd, .int .i64 (lf ls j).fr, .int .i64 (lf ls j).tt, .int .i64 (lf ls j).sz] 53))
              generalize (lf ls j).nd = x0 at *
              generalize (lf ls j).fr = x1 at *
              generalize (lf ls j).tt = x2 at *
              generalize (lf ls j).sz = x3 at *
              generalize hcj : ot outs j = cj at *
              have HCO := hd hcj
              clear hcj
              have d1 : decide (cj < 0) = false := by simpa using hbd.1
              have d2 : decide ((C : Int) ≤ cj) = false := by simpa using hbd.2
              clear hoj hcj0 hbd
              have hV8 : w7.heap.size < (w7.alloc (.cells #[.int .i64 x0, .int .i64 x1, .int .i64 x2, .int .i64 x3] 53)).heap.size := by simp
              go_upto_region 26 with fail
              generalize hV : w7.heap.size = V at *
              generalize w7.alloc (.cells #[.int .i64 x0, .int .i64 x1, .int .i64 x2, .int .i64 x3] 53) = w8 at *
              clear u1 hb h0 h1 h2 h3 hUl hV HR1 HR2 HR3 HA2
              go_wp2_with fail
              go_loopw [113] (fun i wr => ∃ j2 : Nat, i = .int .i64 j2 ∧ j2 ≤ j ∧ Hd (Ext [] w8 wr)) (fun i _ => (j - intOf i).toNat)
              case atStart => exact ⟨0, rfl, Nat.zero_le _, hd (Ext.refl _ _)⟩
              case round =>
                obtain ⟨j2, rfl, hj2, HE8⟩ := hrel
                rename World => w9
                have HE79 := hd (HE70.out.trans HE8.out)
                by_cases hlt9 : j2 < j
                · obtain ⟨bb, oo, he, hb, h0, h1, h2, h3⟩ := (HRW.out w9 (HE7.out.trans HE79.out)).four (k := j2) (by have := HL.out; omega)
                  cases he
                  have hoj := HB.out.ext (HE7.out.trans HE79.out) (by simp)
                  have u1 := hoj.cell j
                  have u2 := hoj.cell j2
                  have hUl := hoj.lt
                  have hcj : (Nums outs)[j]? = some (.int .i64 (ot outs j)) := nums_ot (by rw [HGL.out]; exact hlt7)
                  have hcj2 : (Nums outs)[j2]? = some (.int .i64 (ot outs j2)) := nums_ot (by rw [HGL.out]; omega)
                  rw [hcj, HCO.out] at u1
                  rw [hcj2] at u2
                  have hv := HV0.out.ext HE8.out (by simp)
                  have v1 := hv.cell
                  have v2 := hv.lt
                  have hgj := HGJ.out j2 hlt9
                  clear hoj hcj hcj2 hv
                  generalize (lf ls j2).nd = y0 at *
                  generalize (lf ls j2).fr = y1 at *
                  generalize (lf ls j2).tt = y2 at *
                  generalize (lf ls j2).sz = y3 at *
                  generalize ot outs j2 = cj2 at *
                  go_upto_region 29 with fail
                  by_cases c1 : cj = cj2
                  · have e1 : decide (cj = cj2) = true := by simpa using c1
                    by_cases c2 : x1 ≤ y2
                    · have e2 : decide (x1 ≤ y2) = true := by simpa using c2
                      have e3 : decide (y1 ≤ x2) = false := by
                        have : ¬ y1 ≤ x2 := fun h => hgj ⟨c1, c2, h⟩
                        simpa using this
                      go_quiet (fail)
                      go_wp2_with fail
                      go_roundw
                      case rel => exact ⟨j2 + 1, by go_num, by omega, hd ((HE8.out.alloc _).drewN _)⟩
                      case measure => simp [intOf]; omega
                    · have e2 : decide (x1 ≤ y2) = false := by simpa using c2
                      go_quiet (fail)
                      go_wp2_with fail
                      go_roundw
                      case rel => exact ⟨j2 + 1, by go_num, by omega, hd ((HE8.out.alloc _).drewN _)⟩
                      case measure => simp [intOf]; omega
                  · have e1 : decide (cj = cj2) = false := by simpa using c1
                    have e1b : (cj == cj2) = false := by simpa using c1
                    go_quiet (fail)
                    go_wp2_with fail
                    go_roundw
                    case rel => exact ⟨j2 + 1, by go_num, by omega, hd ((HE8.out.alloc _).drewN _)⟩
                    case measure => simp [intOf]; omega
                · have hjk : j2 = j := by omega
                  subst hjk
                  go_wp2_with fail
                  go_roundw
                  case rel => exact ⟨j2 + 1, by go_num, by omega, hd (HE7.out.trans HE79.out)⟩
                  case measure => simp [intOf]; omega
            · have hjk : j = k := by omega
              go_wp2_with fail
              go_ret
              exact ⟨rfl, HE3.out.trans HE7.out⟩
        · obtain ⟨-, rfl⟩ := HV.out.resolve_right (fun h => hv0 h.1)
          have hv1 : (ev != 0) = true := by simpa using hv0
          go_wp2_with fail
          refine (HCW.out _ (Ext.refl _ _)).mono ?_
          rintro e w6 ⟨rfl, hE6⟩
          have HE6 := hd (HE5.out.trans hE6)
          clear hE6
          go_wp2_with fail
          go_ret
          exact ⟨ret_bool (by simp), HE3.out.trans HE6.out⟩
end Go.Proofs.Ytedabpldigcffaa
