/- packFault, Max: the walk. Condition: the pairs are few. -/
import Derived.Test.YtedabpldigcffaaPakI
namespace Go.Proofs.Ytedabpldigcffaa
open Go.RowKit
set_option linter.unusedSimpArgs false
set_option linter.unusedVariables false

theorem badP_eq (n : Nat) (q : Pr) : badP n q = (decide (min q.1 q.2 < 0) || decide ((n : Int) ≤ max q.1 q.2) || decide (q.1 = q.2)) := by
  unfold badP inR
  rw [Bool.eq_iff_iff]
  simp
  omega
theorem inR_not (x lo hi : Int) : inR x lo hi = !(decide (x < lo) || decide (hi < x)) := by
  unfold inR
  rw [Bool.eq_iff_iff]
  simp

set_option maxHeartbeats 8000000 in
set_option maxRecDepth 100000 in
theorem packFault_any (n m : Nat) (banks bank : Int) (A B : Option Addr) (capA capB : Nat) (zs : List Int) (prs : List Pr) (w : World) (hn : zs.length = n) (hn1 : n ≤ 1000) (hm : prs.length = m) (hm1 : m ≤ 1000) (hA : RdI w A zs) (hB : RdP w B prs) (hAb : ∀ a, A = some a → a.block < w.heap.size) (hBb : ∀ a, B = some a → a.block < w.heap.size) :
    Calls Try.prog 12 #[.slice A n capA, .slice B m capB, .int .i64 banks, .int .i64 bank] w fun e w' => e = .returned (.int .i64 (packE n zs prs banks bank)) ∧ Ext [] w w' := by
  have HA := hd hA
  have HB := hd hB
  have HN := hd hn
  have HM := hd hm
  have HAB := hd hAb
  have HBB := hd hBb
  have HPE : Hd (packE n zs prs banks bank = if 6 < n then 2 else if (inR banks 1 8 && inR bank 1 4096) = false then 9 else if zs.any badZ = true then 9 else if prs.any (badP n) = true then 1 else if tryS zs prs banks.toNat bank n [] (-1) < 0 then 16 else 0) := hd rfl
  have HHAS := hd (has_fault A n capA zs w hA hn hn1)
  clear hA hB hn hm hAb hBb
  go_enter Try.func12, Try.ntmps12
  by_cases c0 : 6 < n
  · have HV : Hd (packE n zs prs banks bank = 2) := hd (by rw [HPE.out, if_pos c0])
    go_wp2_with fail
    go_ret
    exact ⟨by rw [HV.out]; rfl, Ext.refl _ _⟩
  have HR1 := hd (inR_not banks 1 8)
  have HR2 := hd (inR_not bank 1 4096)
  have HBAD : Hd ((inR banks 1 8 && inR bank 1 4096) = false → packE n zs prs banks bank = 9) := hd fun h => by rw [HPE.out, if_neg c0, if_pos h]
  by_cases b1 : banks < 1
  · have e1 : decide (banks < 1) = true := decide_eq_true b1
    have HV := hd (HBAD.out (by rw [HR1.out, e1]; rfl))
    go_wp2_with fail
    go_ret
    exact ⟨by rw [HV.out]; rfl, Ext.refl _ _⟩
  have e1 : decide (banks < 1) = false := decide_eq_false b1
  by_cases b2 : 8 < banks
  · have e2 : decide (8 < banks) = true := decide_eq_true b2
    have HV := hd (HBAD.out (by rw [HR1.out, e1, e2]; rfl))
    go_wp2_with fail
    go_ret
    exact ⟨by rw [HV.out]; rfl, Ext.refl _ _⟩
  have e2 : decide (8 < banks) = false := decide_eq_false b2
  by_cases b3 : bank < 1
  · have e3 : decide (bank < 1) = true := decide_eq_true b3
    have HV := hd (HBAD.out (by rw [HR2.out, e3]; simp))
    go_wp2_with fail
    go_ret
    exact ⟨by rw [HV.out]; rfl, Ext.refl _ _⟩
  have e3 : decide (bank < 1) = false := decide_eq_false b3
  by_cases b4 : 4096 < bank
  · have e4 : decide (4096 < bank) = true := decide_eq_true b4
    have HV := hd (HBAD.out (by rw [HR2.out, e4]; simp))
    go_wp2_with fail
    go_ret
    exact ⟨by rw [HV.out]; rfl, Ext.refl _ _⟩
  have e4 : decide (4096 < bank) = false := decide_eq_false b4
  have HBK : Hd ((inR banks 1 8 && inR bank 1 4096) = true) := hd (by rw [HR1.out, HR2.out, e1, e2, e3, e4]; rfl)
  clear HR1 HR2 HBAD
  go_wp2_with fail
  refine HHAS.out.mono ?_
  rintro e w1 ⟨rfl, hE1⟩
  have HE1 := hd hE1
  clear hE1 HHAS
  cases hz : zs.any badZ
  case true =>
    have HV : Hd (packE n zs prs banks bank = 9) := hd (by rw [HPE.out, if_neg c0, HBK.out, hz]; rfl)
    go_wp2_with fail
    go_ret
    exact ⟨by rw [HV.out]; rfl, HE1.out⟩
  have HZ := hd hz
  have HPE2 : Hd (packE n zs prs banks bank = if prs.any (badP n) = true then 1 else if tryS zs prs banks.toNat bank n [] (-1) < 0 then 16 else 0) := hd (by rw [HPE.out, if_neg c0, HBK.out, hz]; rfl)
  obtain ⟨nb, hnb⟩ : ∃ nb : Nat, banks = nb := ⟨banks.toNat, by omega⟩
  subst hnb
  have HT : Hd (((nb : Int)).toNat = nb) := hd (by omega)
  clear hz HPE
  go_wp2_with fail
  go_loopw [35] (fun v wr => ∃ k : Nat, v = .int .i64 k ∧ k ≤ m ∧ Hd (∀ s, s < k → badP n (gp prs s) = false) ∧ Hd (Ext [] w1 wr)) (fun v _ => (m - intOf v).toNat)
  case atStart => exact ⟨0, rfl, Nat.zero_le _, hd fun s hs => absurd hs (by omega), hd (Ext.refl _ _)⟩
  case round =>
    obtain ⟨k, rfl, hk, HF, HE2⟩ := hrel
    rename World => w2
    by_cases hlt : k < m
    · obtain ⟨b, o, rfl, hb, h0, h1⟩ := (HB.out.ext (HE1.out.trans HE2.out) (by simp)).at (k := k) (by have := HM.out; omega)
      have HBP := hd (badP_eq n (gp prs k))
      have HMEM : Hd (badP n (gp prs k) = true → packE n zs prs nb bank = 1) := hd fun h => by
        rw [HPE2.out, if_pos]
        exact List.any_eq_true.2 ⟨_, List.mem_of_getElem? (gp_lt (by rw [HM.out]; exact hlt)), h⟩
      have HE3 := hd (HE2.out.alloc (.cells #[.int .i64 (gp prs k).1, .int .i64 (gp prs k).2] 69))
      have HV := hd (Blk.new w2 69 #[.int .i64 (gp prs k).1, .int .i64 (gp prs k).2])
      go_upto_region 10 with fail
      generalize hP : w2.heap.size = pb at *
      generalize w2.alloc (.cells #[.int .i64 (gp prs k).1, .int .i64 (gp prs k).2] 69) = w3 at *
      generalize (gp prs k).1 = x at *
      generalize (gp prs k).2 = y at *
      clear hP h0 h1 hb
      have q1 := HV.out.cell
      have q2 := HV.out.lt
      obtain ⟨mn, hmn⟩ : ∃ mn, mn = min x y := ⟨_, rfl⟩
      obtain ⟨mx, hmx⟩ : ∃ mx, mx = max x y := ⟨_, rfl⟩
      rw [← hmn, ← hmx] at HBP
      have hmn2 := hmn.symm
      have hmx2 := hmx.symm
      clear hmn hmx
      by_cases d1 : mn < 0
      · have f1 : decide (mn < 0) = true := decide_eq_true d1
        have HV2 := hd (HMEM.out (by rw [HBP.out, f1]; rfl))
        go_wp2_with fail
        go_ret
        exact ⟨by rw [HV2.out]; rfl, HE1.out.trans HE3.out⟩
      have f1 : decide (mn < 0) = false := decide_eq_false d1
      by_cases d2 : (n : Int) ≤ mx
      · have f2 : decide ((n : Int) ≤ mx) = true := decide_eq_true d2
        have HV2 := hd (HMEM.out (by rw [HBP.out, f1, f2]; rfl))
        go_wp2_with fail
        go_ret
        exact ⟨by rw [HV2.out]; rfl, HE1.out.trans HE3.out⟩
      have f2 : decide ((n : Int) ≤ mx) = false := decide_eq_false d2
      by_cases hxy : x = y
      · have f3 : decide (x = y) = true := decide_eq_true hxy
        have HV2 := hd (HMEM.out (by rw [HBP.out, f3]; simp))
        have f4 : (x == y) = true := by simpa using hxy
        go_wp2_with fail
        go_ret
        exact ⟨by rw [HV2.out]; rfl, HE1.out.trans HE3.out⟩
      · have f3 : decide (x = y) = false := decide_eq_false hxy
        have f4 : (x == y) = false := by simpa using hxy
        have HV2 : Hd (badP n (gp prs k) = false) := hd (by rw [HBP.out, f1, f2, f3]; rfl)
        go_wp2_with fail
        go_roundw
        case rel => exact ⟨k + 1, by go_num, by omega, hd (fun s hs => by
          rcases Nat.lt_or_ge s k with h1 | h1
          · exact HF.out s h1
          · have : s = k := by omega
            rw [this]; exact HV2.out), HE3⟩
        case measure => simp [intOf]; omega
    · have hkm : k = m := by omega
      subst hkm
      have hany := any_of_gp (n := n) (prs := prs) (fun s hs => HF.out s (by rw [← HM.out]; exact hs))
      have HPE3 : Hd (packE n zs prs nb bank = if tryS zs prs nb bank n [] (-1) < 0 then 16 else 0) := hd (by rw [HPE2.out, if_neg (by rw [hany]; decide), HT.out])
      have HOK := hd (pkOk_of HN.out c0 HBK.out HZ.out (prOk_of hany) (by rw [HM.out]; exact hm1))
      have HE02 := hd (HE1.out.trans HE2.out)
      have HFEW := hd (few_any n nb k bank A B capA capB zs prs w2 HOK.out HM.out (HA.out.ext HE02.out (by simp)) (HB.out.ext HE02.out (by simp)) (fun a ha => Nat.lt_of_lt_of_le (HAB.out a ha) HE02.out.size) (fun a ha => Nat.lt_of_lt_of_le (HBB.out a ha) HE02.out.size))
      clear HPE2 hany
      go_wp2_with fail
      refine HFEW.out.mono ?_
      rintro e w3 ⟨rfl, hE3⟩
      have HE3 := hd (HE02.out.trans hE3)
      clear hE3
      generalize tryS zs prs nb bank n [] (-1) = t at *
      by_cases c4 : t < 0
      · have HV2 : Hd (packE n zs prs nb bank = 16) := hd (by rw [HPE3.out, if_pos c4])
        go_wp2_with fail
        go_ret
        exact ⟨by rw [HV2.out]; rfl, HE3.out⟩
      · have HV2 : Hd (packE n zs prs nb bank = 0) := hd (by rw [HPE3.out, if_neg c4])
        go_wp2_with fail
        go_ret
        exact ⟨by rw [HV2.out]; rfl, HE3.out⟩
end Go.Proofs.Ytedabpldigcffaa
