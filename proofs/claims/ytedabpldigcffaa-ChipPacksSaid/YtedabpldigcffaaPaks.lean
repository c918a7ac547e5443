/- Pack is as specified: the walk. -/
import Derived.Test.YtedabpldigcffaaPakK
import Derived.Test.YtedabpldigcffaaChipK
namespace Go.Proofs.Ytedabpldigcffaa
open Go.RowKit
set_option linter.unusedSimpArgs false
set_option linter.unusedVariables false
attribute [local irreducible] relAt

/-- A stream over the argument. -/
theorem stream_at (A : Option Addr) (len cap : Nat) (w : World) (hlen : len ≤ 9223372036854775807) (hA : 0 < len → ∃ b o, A = some ⟨b, o, none⟩ ∧ b < w.heap.size ∧ ∀ i, i < len → ∃ x, w.cell? ⟨b, o + i, none⟩ = some (.int .i64 x)) :
    Stm (w.alloc (.cells #[.slice A len cap, .int .i64 0] 25)) w.heap.size w.heap.size 1000000000 :=
  ⟨A, len, cap, 0, Blk.new _ _ _, Nat.le_refl _, Int.le_refl _, by omega, hlen, fun h => by
    obtain ⟨b, o, h1, h2, h3⟩ := hA h
    refine ⟨b, o, h1, h2, fun i hi => ?_⟩
    obtain ⟨x, hx⟩ := h3 i hi
    exact ⟨x, ((Ext.refl [] w).alloc _).held hx (by simp)⟩⟩

theorem packE_zero {n : Nat} {zs : List Int} {prs : List Pr} {banks bank : Int} (h : packE n zs prs banks bank = 0) (h0 : zs.length = n) (h5 : prs.length ≤ 1000) : ∃ nb : Nat, banks = nb ∧ PkOk n nb bank zs prs := by
  unfold packE at h
  by_cases c0 : 6 < n
  · rw [if_pos c0] at h; cases h
  rw [if_neg c0] at h
  by_cases c1 : (inR banks 1 8 && inR bank 1 4096) = false
  · rw [if_pos c1] at h; cases h
  rw [if_neg c1] at h
  by_cases c2 : zs.any badZ = true
  · rw [if_pos c2] at h; cases h
  rw [if_neg c2] at h
  by_cases c3 : prs.any (badP n) = true
  · rw [if_pos c3] at h; cases h
  have c1' : (inR banks 1 8 && inR bank 1 4096) = true := by simpa using c1
  obtain ⟨nb, hnb⟩ : ∃ nb : Nat, banks = nb := ⟨banks.toNat, by
    unfold inR at c1'
    simp only [Bool.and_eq_true, decide_eq_true_eq] at c1'
    omega⟩
  subst hnb
  exact ⟨nb, rfl, pkOk_of h0 c0 c1' (by simpa using c2) (prOk_of (by simpa using c3)) h5⟩
theorem usedOf_le (b : Nat) : ∀ (p : List Nat) (zs : List Int), (∀ x ∈ zs, 1 ≤ x ∧ x ≤ 4096) → usedOf p zs b ≤ 4096 * p.length
  | [], zs, _ => by rw [usedOf_nil]; simp
  | p :: ps, [], _ => by simp [usedOf]; omega
  | p :: ps, z :: zs, h => by
    simp only [usedOf, List.length_cons]
    have h1 := usedOf_le b ps zs (fun x hx => h x (by simp [hx]))
    have h2 := h z (by simp)
    split <;> omega
theorem gn_take {p : List Nat} {j : Nat} (h : j < p.length) : p.take (j + 1) = p.take j ++ [gn p j] := by
  rw [List.take_add_one, gn_lt h]; rfl

set_option maxHeartbeats 8000000 in
set_option maxRecDepth 100000 in
theorem chipPacks_any (A : Option Addr) (len cap : Nat) (w : World) (hlen : len ≤ 9223372036854775807) (hA : 0 < len → ∃ b o, A = some ⟨b, o, none⟩ ∧ b < w.heap.size ∧ ∀ i, i < len → ∃ x, w.cell? ⟨b, o + i, none⟩ = some (.int .i64 x)) :
    Calls Try.prog 3 #[.slice A len cap] w fun e w' => e = .returned (.bool true) ∧ Ext [] w w' := by
  obtain ⟨i0, hi0, hz0, hz1, hz2⟩ := info_parts (show ((Try.prog).info? 3).map (fun i => (i.zero, i.size, i.bytes)) = some (some (.int .i64 0), 1, 8) by kernel_rfl)
  have HST := hd (stream_at A len cap w hlen hA)
  have HE0 := hd ((Ext.refl [] w).alloc (.cells #[.slice A len cap, .int .i64 0] 25))
  have hg0 : w.heap.size < (w.alloc (.cells #[.slice A len cap, .int .i64 0] 25)).heap.size := by simp
  clear hA
  go_enter Try.func3, Try.ntmps3
  go_upto_region 3 with fail
  generalize hg : w.heap.size = g at *
  generalize w.alloc (.cells #[.slice A len cap, .int .i64 0] 25) = w0 at *
  go_wp2_with fail
  refine (pick_any g g 100000 w0.heap.size 9 3 [0, 1, 2, 3, 4, 5, 6, 6, 7] _ ((HST.out.less (by omega)).alloc _) (Blk.new _ _ _) (by omega) (by decide)).mono ?_
  rintro e w1 ⟨rn, rfl, hrn, hE1, hS1⟩
  have hr7 : 0 ≤ rn ∧ rn ≤ 7 := by simp at hrn; omega
  have hEE := ((Ext.refl [g] w0).alloc (.cells (Nums [0, 1, 2, 3, 4, 5, 6, 6, 7]) 3)).trans hE1
  have HL0 : Hd (ZsSt g g (50000 + (7 - 0) * 1000) w0 0 (.slice none 0 0) w1) := hd ⟨hEE, hS1.less (by omega), [], rfl, rfl, .inl ⟨rfl, rfl⟩⟩
  clear hE1 hS1 hrn hEE
  go_wp2_with fail
  go_loopw [4, 21] (fun v i wr => ∃ k : Nat, i = .int .i64 k ∧ (k : Int) ≤ rn ∧ Hd (ZsSt g g (50000 + (7 - k) * 1000) w0 k v wr)) (fun _ i _ => (rn - intOf i).toNat)
  case atStart => exact ⟨0, rfl, by omega, HL0⟩
  case round =>
    obtain ⟨k, rfl, hk, HLk⟩ := hrel
    obtain ⟨hE, hS, zs, hlen2, ho⟩ := HLk.out
    have HE := hd hE
    have HS := hd hS
    have HO := hd ho
    have HLN := hd hlen2
    have hww : w0.heap.size ≤ wr.heap.size := hE.size
    have hgr : g < wr.heap.size := hS.lt
    by_cases hlt : (k : Int) < rn
    · clear hE hS hlen2 ho
      go_wp2_with fail
      refine (pick_any g g (50000 + (7 - (k + 1)) * 1000 + 10) wr.heap.size 5 3 [1, 2, 3, 5, 8] _ ((HS.out.less (by omega)).alloc _) (Blk.new _ _ _) (by omega) (by decide)).mono ?_
      rintro e w2 ⟨x, rfl, _, hE2, hS2⟩
      have HE2 := hd (((Ext.refl [g] wr).alloc (.cells (Nums [1, 2, 3, 5, 8]) 3)).trans hE2)
      have HS2 := hd hS2
      have hw2 : wr.heap.size ≤ w2.heap.size := HE2.out.size
      clear hE2 hS2
      have HNG : Hd (∀ q, (_ : Value).ownBlock = some q → q ∉ [g]) := hd (fun q hq hm => by have := own_base HO.out q hq; rw [List.mem_singleton.1 hm] at this; omega)
      go_wp2_with (
        refine wpList_append_lies _ rfl _ _ 22 rfl w0.heap.size 3 i0 _ 1 8 Try.underlying22 hi0 hz0 hz1 hz2 rfl (by decide) _ k (zs.map (Value.int .i64)) rfl (own_ext HO.out (HE2.out.alloc _) HNG.out) ⟨w2.heap.size, 0, none⟩ 1 1 [.int .i64 x] rfl rfl ?c1 ?c2 (by decide) ?c3 ?c4 ?c5 _ rfl ?_
        case c1 => exact World.news_of_block (Blk.new _ _ _)
        case c2 => intro u hu; simp at hu; rcases hu with rfl; rfl
        case c3 => unfold maxLen; omega
        case c4 => omega
        case c5 => simp; omega
        intro g2 cap2 w8 ho hgg ha hlt2
        have HN : Hd (ZsSt g g (50000 + (7 - (k + 1)) * 1000) w0 (k + 1) (.slice (some ⟨g2, 0, none⟩) (k + 1) cap2) w8) := hd (zs_next HE.out HE2.out HO.out (HS2.out.less (by omega)) (by omega) hg0 HLN.out hgg ho)
        clear ho hgg ha hlt2)
      go_roundw
      case rel => exact ⟨k + 1, by go_num, by omega, HN⟩
      case measure => simp [intOf]; omega
    · obtain ⟨A1, cap1, rfl, hcap1, hA1⟩ := own_form ho
      have hk7 : k ≤ 7 := by omega
      have hA2 : ∀ a, A1 = some a → w0.heap.size ≤ a.block ∧ a.block < wr.heap.size := fun a ha => by
        subst ha
        rcases ho.2 with ⟨he, _⟩ | ⟨g', cap', cur, he, hb, hgg, _⟩
        · cases he
        · cases he; exact ⟨hb, (Array.getElem?_eq_some_iff.1 hgg).1⟩
      obtain ⟨A9, c9, he9, hrd⟩ := own_rd ho hlen2
      cases he9
      have HA1 := hd hA1
      have HA2 := hd hA2
      have HRD := hd hrd
      clear hE hS hlen2 ho hA1 hA2 hrd
      go_upto_region 7 with fail
      go_cut [36] (fun s wx => ∃ b : Bool, s = .bool b ∧ (b = true → 0 < k) ∧ Ext [g] wr wx ∧ Stm wx g g 40000)
      case first =>
        by_cases hk0 : k = 0
        · subst hk0
          go_wp2_with fail
          go_meet
          exact ⟨false, rfl, by simp, Ext.refl _ _, HS.out.less (by omega)⟩
        · go_wp2_with fail
          refine (flip_any g g 40000 _ _ (HS.out.less (by omega)) (by omega)).mono ?_
          rintro e w2 ⟨fb, rfl, hE2, hS2⟩
          have HE2 := hd hE2
          have HS2 := hd hS2
          clear hE2 hS2
          cases fb
          · go_wp2_with fail
            go_meet
            exact ⟨false, rfl, by simp, HE2.out, HS2.out⟩
          · go_wp2_with fail
            go_meet
            exact ⟨true, rfl, fun _ => by omega, HE2.out, HS2.out⟩
      case rest =>
        obtain ⟨fb, rfl, hfb, hE2, hS2⟩ := hcut
        rename World => w2
        have HE2 := hd hE2
        have HS2 := hd hS2
        have hgw2 : g < w2.heap.size := hS2.lt
        have hww2 : wr.heap.size ≤ w2.heap.size := hE2.size
        clear hE2 hS2
        go_upto_if 36 with fail
        go_cut [4] (fun v wx => ZsR g g 20000 w0 v wx)
        case first =>
          cases fb
          · go_wp2_with fail
            go_meet
            exact ⟨HE.out.trans HE2.out, HS2.out.less (by omega), _, _, k, zs, rfl, HLN.out, hk7, HRD.out.ext HE2.out (fun a ha hm => by have := (HA2.out a ha).1; rw [List.mem_singleton.1 hm] at this; omega), fun a ha => ⟨(HA2.out a ha).1, by have := (HA2.out a ha).2; omega⟩⟩
          · have hk0 : 0 < k := hfb rfl
            obtain ⟨g1, rfl, hg1, hg1l⟩ := HA1.out hk0
            have HI := hd (own_in HO.out)
            have hI2 := HI.out.ext HE2.out (by simp; omega)
            have HI2 := hd hI2
            clear hI2
            go_wp2_with fail
            refine (pick_any g g 30000 w2.heap.size 4 3 [0, 4096, 4097, -1] _ ((HS2.out.less (by omega)).alloc _) (Blk.new _ _ _) (by omega) (by decide)).mono ?_
            rintro e w3 ⟨x, rfl, _, hE3, hS3⟩
            have hEE := ((Ext.refl [g] w2).alloc (.cells (Nums [0, 4096, 4097, -1]) 3)).trans hE3
            have HE3 := hd ((HE.out.trans HE2.out).trans hEE)
            have HS3 := hd hS3
            have HI3 := hd (HI2.out.ext hEE (by simp; omega))
            have q1 := HI3.out.cell (gi_lt (p := zs) (i := 0) (by rw [HLN.out]; exact hk0))
            have q2 := HI3.out.frozen 0
            have q3 := HI3.out.lt
            clear hE3 hS3 hEE
            go_wp2_with fail
            go_meet
            have HI4 := HI3.out.set 0 x
            refine ⟨HE3.out.setCell (.inr hg1) _, (HS3.out.setCell (by simp; omega) (by simp; omega) _).less (by omega), _, _, k, zs.set 0 x, rfl, by rw [List.length_set, HLN.out], hk7, HI4.rda, fun a ha => ?_⟩
            cases ha
            exact ⟨hg1, HI4.lt⟩
        case rest =>
          obtain ⟨hE3, hS3, A3, cap3, n, zs3, rfl, hz, hn7, hr3, hb3⟩ := hcut
          rename World => w3
          have HE3 := hd hE3
          have HS3 := hd hS3
          have HZ := hd hz
          have HR3 := hd hr3
          have HB3 := hd hb3
          clear hE3 hS3 hz hr3 hb3 HLk HA1 HA2 HRD HO
          go_wp2_with fail
          refine (pairs_any g g 10000 _ _ (HS3.out.less (by omega)) (by omega)).mono ?_
          rintro e w4 ⟨B, capB, m, prs, rfl, hm, hrp, hm7, hbB, hE4, hS4⟩
          have HE4 := hd hE4
          have HS4 := hd hS4
          have HM := hd hm
          have HRP := hd hrp
          have HBB : Hd (∀ a, B = some a → a.block < w4.heap.size ∧ a.block ≠ g) := hd (fun a ha => by
            have h1 := hbB a ha
            have h2 : w0.heap.size ≤ w3.heap.size := HE3.out.size
            omega)
          clear hE4 hS4 hm hrp hbB
          go_wp2_with fail
          refine (pick_any g g 9000 w4.heap.size 8 3 [1, 2, 2, 3, 4, 8, 0, 9] _ ((HS4.out.less (by omega)).alloc _) (Blk.new _ _ _) (by have := HS4.out.lt; omega) (by decide)).mono ?_
          rintro e w5 ⟨banks, rfl, _, hE5, hS5⟩
          have HE5 := hd (((Ext.refl [g] w4).alloc (.cells (Nums [1, 2, 2, 3, 4, 8, 0, 9]) 3)).trans hE5)
          have HS5 := hd hS5
          clear hE5 hS5
          go_wp2_with fail
          refine (pick_any g g 8000 w5.heap.size 8 3 [3, 6, 8, 10, 16, 4096, 0, 4097] _ ((HS5.out.less (by omega)).alloc _) (Blk.new _ _ _) (by have := HS5.out.lt; omega) (by decide)).mono ?_
          rintro e w6 ⟨bank, rfl, _, hE6, hS6⟩
          have HE46 := hd (HE5.out.trans (((Ext.refl [g] w5).alloc (.cells (Nums [3, 6, 8, 10, 16, 4096, 0, 4097]) 3)).trans hE6))
          have HE36 := hd (HE4.out.trans HE46.out)
          have HE06 : Hd (Ext [] w w6) := hd (HE0.out.step (HE3.out.trans HE36.out) (fun x hx => .inr (by rw [List.mem_singleton.1 hx]; omega)))
          have HAg : Hd (∀ a, A3 = some a → a.block ∉ [g] ∧ a.block < w3.heap.size) := hd (fun a ha => by have := HB3.out a ha; simp; omega)
          have HA6 := hd (HR3.out.ext HE36.out (fun a ha => (HAg.out a ha).1))
          have HP6 := hd (HRP.out.ext HE46.out (fun a ha => by have := HBB.out a ha; simp; omega))
          have HAL : Hd (∀ a, A3 = some a → a.block < w6.heap.size) := hd (fun a ha => Nat.lt_of_lt_of_le (HAg.out a ha).2 HE36.out.size)
          have HBL : Hd (∀ a, B = some a → a.block < w6.heap.size) := hd (fun a ha => Nat.lt_of_lt_of_le (HBB.out a ha).1 HE46.out.size)
          clear hE6 hS6 HS3 HS4 HS5 HR3 HRP HST HS HS2 HE HE2
          go_wp2_with fail
          refine (pack_any n m banks bank A3 B cap3 capB zs3 prs w6 HZ.out (by omega) HM.out (by omega) HA6.out HP6.out HAL.out HBL.out).mono ?_
          rintro e w7 ⟨hres, hE7⟩
          have HE7 := hd hE7
          have HPF := hd (fun W (hW : Ext [] w6 W) => packFault_any n m banks bank A3 B cap3 capB zs3 prs W HZ.out (by omega) HM.out (by omega) (HA6.out.ext hW (by simp)) (HP6.out.ext hW (by simp)) (fun a ha => Nat.lt_of_lt_of_le (HAL.out a ha) hW.size) (fun a ha => Nat.lt_of_lt_of_le (HBL.out a ha) hW.size))
          clear hE7
          rcases hres with ⟨hne, rfl⟩ | ⟨h0, AB, cB, p, rfl, hp, hrB, hft, hcf⟩
          · have HNE := hd hne
            generalize packE n zs3 prs banks bank = pe at *
            clear hne
            have hpe : (pe != 0) = true := by simpa using HNE.out
            go_wp2_with fail
            refine (HPF.out _ HE7.out).mono ?_
            rintro e w8 ⟨rfl, hE8⟩
            have HE8 := hd (HE7.out.trans hE8)
            clear hE8
            go_wp2_with fail
            refine (chips_any _).mono ?_
            rintro e w9 ⟨rfl, hE9⟩
            have HE9 := hd (HE8.out.trans hE9)
            clear hE9
            go_wp2_with fail
            go_ret
            exact ⟨ret_bool (by simp), HE06.out.trans HE9.out⟩
          · obtain ⟨nb, rfl, hok⟩ := packE_zero h0 HZ.out (by have := HM.out; omega)
            have HOK := hd hok
            have HPE0 := hd h0
            have htn : ((nb : Int)).toNat = nb := by omega
            rw [htn] at hcf hft
            rw [htn]
            generalize ht : tryS zs3 prs nb bank n [] (-1) = t at *
            have HTT := hd ht
            clear ht
            have hmk := make_int nb (by have := hok.b8; omega)
            have hb8 := hok.b8
            have hb1 := hok.b1
            have hk2 := hok.k2
            clear hok
            have HP := hd hp
            have HRB := hd hrB
            have HFT := hd hft
            have HCF := hd hcf
            generalize packE n zs3 prs nb bank = pe at *
            clear h0 hp hrB hft hcf
            have hpe := HPE0.out
            subst hpe
            go_wp2_with fail
            refine (HPF.out _ HE7.out).mono ?_
            rintro e w8 ⟨rfl, hE8⟩
            have HE78 := hd hE8
            have HE8 := hd (HE7.out.trans hE8)
            clear hE8
            go_wp2_with fail
            refine (chips_any _).mono ?_
            rintro e w9 ⟨rfl, hE9⟩
            have HE79 := hd (HE78.out.trans hE9)
            have HE9 := hd (HE8.out.trans hE9)
            clear hE9
            have HA9 := hd (HA6.out.ext HE9.out (by simp))
            have HRB9 := hd (HRB.out.ext HE79.out (by simp))
            have HU0 : Hd (Blk (w9.alloc (.cells (madeCells #[.int .i64 0] nb) 3)) w9.heap.size 3 (Nums (usL zs3 nb (p.take 0)))) := hd (by rw [List.take_zero, usL_zero, numsz]; exact Blk.new _ _ _)
            have HE10 := hd (HE9.out.alloc (.cells (madeCells #[.int .i64 0] nb) 3))
            have HE910 := hd ((Ext.refl [] w9).alloc (.cells (madeCells #[.int .i64 0] nb) 3))
            go_upto_region 18 with fail
            generalize hU : w9.heap.size = U at *
            generalize w9.alloc (.cells (madeCells #[.int .i64 0] nb) 3) = w10 at *
            have HUU := hd hU
            clear hU
            have HUA : Hd (∀ a, A3 = some a → a.block ∉ [U]) := hd (fun a ha hm => by have := HAL.out a ha; have h2 := HE9.out.size; have h3 := HUU.out; have h4 := List.mem_singleton.1 hm; omega)
            go_wp2_with fail
            go_loopw [101] (fun v wr => ∃ j : Nat, v = .int .i64 j ∧ j ≤ n ∧ Hd (Blk wr U 3 (Nums (usL zs3 nb (p.take j)))) ∧ Hd (Ext [U] w10 wr)) (fun v _ => (n - intOf v).toNat)
            case atStart => exact ⟨0, rfl, Nat.zero_le _, HU0, hd (Ext.refl _ _)⟩
            case round =>
              obtain ⟨j, rfl, hj, HUj, HEj⟩ := hrel
              rename World => w11
              have HA11 := hd (HA9.out.ext (HE910.out.nil.trans HEj.out) HUA.out)
              by_cases hlt : j < n
              · obtain ⟨bb, ob, rfl, lb, _⟩ := HRB9.out.at (k := 0) (by rw [nats_length, HP.out]; omega)
                have hbU : bb < U := by have := HUU.out; omega
                obtain ⟨bb', ob', he, lb1, c1⟩ := (HRB9.out.ext (HE910.out.nil.trans HEj.out) (fun a ha hm => by cases ha; have := List.mem_singleton.1 hm; simp at this; omega)).at (k := j) (by rw [nats_length, HP.out]; exact hlt)
                cases he
                rw [gi_nats] at c1
                obtain ⟨ba, oa, rfl, la, c2⟩ := HA11.out.at (k := j) (by rw [HZ.out]; exact hlt)
                have hbn := HFT.out.1 j (by rw [HP.out]; exact hlt)
                have hzj := HOK.out.gi hlt
                have hjl : (p.take j).length = j := by rw [List.length_take, HP.out]; omega
                have hu0 := usedOf_pos (gn p j) (p.take j) zs3 HOK.out.z
                have hu1 := usedOf_le (gn p j) (p.take j) zs3 HOK.out.z
                rw [hjl] at hu1
                have c3 : w11.cell? ⟨U, gn p j, none⟩ = some (.int .i64 (usedOf (p.take j) zs3 (gn p j))) := by rw [HUj.out.cell]; exact nums_get (usL_get zs3 (p.take j) hbn)
                have c4 := HUj.out.frozen (gn p j)
                have c5 := HUj.out.lt
                have HUN : Hd (Blk ((w11.setCell ⟨U, gn p j, none⟩ (.int .i64 (usedOf (p.take j) zs3 (gn p j) + gi zs3 j))).drew) U 3 (Nums (usL zs3 nb (p.take (j + 1))))) := hd (by
                  have h1 := HUj.out.set_ (gn p j) (.int .i64 (usedOf (p.take j) zs3 (gn p j) + gi zs3 j))
                  have h2 := usL_up (zs := zs3) (banks := nb) (p := p.take j) (j := gn p j) (by rw [hjl, HZ.out]; exact hlt)
                  rw [hjl] at h2
                  rw [nums_set, h2, ← gn_take (by rw [HP.out]; exact hlt)] at h1
                  exact h1)
                have HEN : Hd (Ext [U] w10 ((w11.setCell ⟨U, gn p j, none⟩ (.int .i64 (usedOf (p.take j) zs3 (gn p j) + gi zs3 j))).drew)) := hd ((HEj.out.setCell (.inl (by simp)) _).drew)
                generalize usedOf (p.take j) zs3 (gn p j) = u at *
                generalize gi zs3 j = z at *
                generalize gn p j = b at *
                have hw0 : IntKind.i64.wrap (u + z) = u + z := by rw [IntKind.wrap_i64]; omega
                have d1 : decide ((b : Int) < 0) = false := decide_eq_false (by omega)
                have d2 : decide ((nb : Int) ≤ (b : Int)) = false := decide_eq_false (by omega)
                clear lb hjl
                go_wp2_with fail
                go_region
                go_wp2_with fail
                go_roundw
                case rel => exact ⟨j + 1, by go_num, by omega, HUN, HEN⟩
                case measure => simp [intOf]; omega
              · have hjn : j = n := by omega
                subst hjn
                have htk : p.take j = p := by rw [← HP.out, List.take_length]
                have hU11 := HUj.out
                rw [htk] at hU11
                have HE11 : Hd (Ext [] w6 w11) := hd (HE10.out.step HEj.out (fun x hx => .inr (by have := HUU.out; have := HE9.out.size; have := List.mem_singleton.1 hx; omega)))
                have HE711 : Hd (Ext [] w7 w11) := hd ((HE79.out.trans HE910.out).step HEj.out (fun x hx => .inr (by have := HUU.out; have := HE79.out.size; have := List.mem_singleton.1 hx; omega)))
                have HMX := hd (maxInt_le (some ⟨U, 0, none⟩) nb nb (usL zs3 nb p) bank w11 (.inr ⟨U, 0, rfl, fun i x hx => by rw [Nat.zero_add, hU11.cell]; exact nums_get hx⟩) (usL_length _ _ _) hb1 (by omega) (fun i hi => by
                  have h1 := usL_get zs3 (banks := nb) p hi
                  have h2 := gi_lt (p := usL zs3 nb p) (i := i) (by rw [usL_length]; exact hi)
                  rw [h1] at h2
                  rw [← Option.some.inj h2]
                  exact HFT.out.2 i))
                have HTG := hd (fun W (hW : Ext [] w11 W) => together_any AB B cB capB j m (nats p) prs W (HRB.out.ext (HE711.out.trans hW) (by simp)) (HP6.out.ext (HE11.out.trans hW) (by simp)) (by rw [nats_length, HP.out]) HM.out HOK.out.pr (by omega) (by omega))
                have HFW := hd (fun W (hW : Ext [] w11 W) => few_any j nb m bank A3 B cap3 capB zs3 prs W HOK.out HM.out (HA6.out.ext (HE11.out.trans hW) (by simp)) (HP6.out.ext (HE11.out.trans hW) (by simp)) (fun a ha => Nat.lt_of_lt_of_le (HAL.out a ha) (HE11.out.trans hW).size) (fun a ha => Nat.lt_of_lt_of_le (HBL.out a ha) (HE11.out.trans hW).size))
                have HTT2 : Hd (tog (nats p) prs = t) := hd (by rw [← conf_full HOK.out.pr HP.out]; exact HCF.out.symm)
                rw [HTT2.out] at HTG
                rw [HTT.out] at HFW
                clear htk hU11
                go_wp2_with fail
                refine HMX.out.mono ?_
                rintro e w12 ⟨r, rfl, hr, hE12⟩
                have HE12 := hd hE12
                have hrb : decide (r ≤ bank) = true := decide_eq_true hr
                clear hE12
                go_wp2_with fail
                refine (HTG.out _ HE12.out).mono ?_
                rintro e w13 ⟨rfl, hE13⟩
                have HE13 := hd (HE12.out.trans hE13)
                clear hE13
                go_wp2_with fail
                refine (HFW.out _ HE13.out).mono ?_
                rintro e w14 ⟨rfl, hE14⟩
                have HE14 := hd (HE13.out.trans hE14)
                clear hE14
                go_wp2_with fail
                go_ret
                exact ⟨ret_bool (by simp), HE06.out.trans (HE11.out.trans HE14.out)⟩
end Go.Proofs.Ytedabpldigcffaa
