/- Pack: the walk. Condition: the pairs are few. -/
import Derived.Test.YtedabpldigcffaaPakH
import Derived.Lib.MinMax
namespace Go.Proofs.Ytedabpldigcffaa
open Go.RowKit
set_option linter.unusedSimpArgs false
set_option linter.unusedVariables false

/-- A pair that is not right. -/
def badP (n : Nat) (q : Pr) : Bool := !(inR q.1 0 ((n : Int) - 1)) || !(inR q.2 0 ((n : Int) - 1)) || decide (q.1 = q.2)
/-- The error of Pack. -/
def packE (n : Nat) (zs : List Int) (prs : List Pr) (banks bank : Int) : Int :=
  if 6 < n then 2 else if (inR banks 1 8 && inR bank 1 4096) = false then 9 else if zs.any badZ = true then 9 else if prs.any (badP n) = true then 1 else if tryS zs prs banks.toNat bank n [] (-1) < 0 then 16 else 0
theorem prOk_of {n : Nat} {prs : List Pr} (h : prs.any (badP n) = false) : PrOk n prs := by
  intro q hq
  have : badP n q = false := by
    rw [List.any_eq_false] at h
    simpa using h q hq
  unfold badP inR at this
  simp only [Bool.or_eq_false_iff, Bool.not_eq_false', Bool.and_eq_true, decide_eq_true_eq, decide_eq_false_iff_not] at this
  omega
theorem any_of_gp {n : Nat} {prs : List Pr} (h : ∀ s, s < prs.length → badP n (gp prs s) = false) : prs.any (badP n) = false := by
  rw [List.any_eq_false]
  intro q hq
  obtain ⟨s, hs⟩ := List.getElem?_of_mem hq
  have hsl : s < prs.length := (List.getElem?_eq_some_iff.1 hs).1
  have h2 := h s hsl
  rw [gp_lt hsl] at hs
  cases hs
  simp [h2]
theorem pkOk_of {n : Nat} {zs : List Int} {prs : List Pr} {banks : Nat} {bank : Int} (h0 : zs.length = n) (h1 : ¬ 6 < n) (h2 : (inR (banks : Int) 1 8 && inR bank 1 4096) = true) (h3 : zs.any badZ = false) (h4 : PrOk n prs) (h5 : prs.length ≤ 1000) : PkOk n banks bank zs prs := by
  unfold inR at h2
  simp only [Bool.and_eq_true, decide_eq_true_eq] at h2
  refine ⟨h0, by omega, by omega, by omega, by omega, by omega, fun x hx => ?_, h4, h5⟩
  rw [List.any_eq_false] at h3
  have := h3 x hx
  unfold badZ at this
  simp at this
  omega
/-- A new packer's cells. -/
def pk0 (sz usv : Value) (bank : Int) : Array Value := #[sz, .int .i64 0, .int .i64 0, .int .i64 0, .int .i64 0, .int .i64 0, .int .i64 0, .int .i64 0, .int .i64 0, .int .i64 0, .int .i64 0, .int .i64 0, .int .i64 0, .int .i64 0, .int .i64 0, .int .i64 0, .int .i64 0, .int .i64 0, .int .i64 0, .int .i64 0, .int .i64 0, .int .i64 0, .int .i64 0, .int .i64 0, .int .i64 0, .int .i64 0, .int .i64 0, .int .i64 0, .int .i64 0, .int .i64 0, .int .i64 0, .int .i64 0, .int .i64 0, .int .i64 0, .int .i64 0, .int .i64 0, .int .i64 0, .slice none 0 0, .slice none 0 0, usv, .int .i64 bank, .int .i64 (-1)]
theorem pk0_z (sz usv : Value) (bank : Int) (q : Nat) (h : q < 36) : (pk0 sz usv bank)[1 + q]? = some (.int .i64 0) := by
  match q, h with
  | 0, _ => rfl
  | 1, _ => rfl
  | 2, _ => rfl
  | 3, _ => rfl
  | 4, _ => rfl
  | 5, _ => rfl
  | 6, _ => rfl
  | 7, _ => rfl
  | 8, _ => rfl
  | 9, _ => rfl
  | 10, _ => rfl
  | 11, _ => rfl
  | 12, _ => rfl
  | 13, _ => rfl
  | 14, _ => rfl
  | 15, _ => rfl
  | 16, _ => rfl
  | 17, _ => rfl
  | 18, _ => rfl
  | 19, _ => rfl
  | 20, _ => rfl
  | 21, _ => rfl
  | 22, _ => rfl
  | 23, _ => rfl
  | 24, _ => rfl
  | 25, _ => rfl
  | 26, _ => rfl
  | 27, _ => rfl
  | 28, _ => rfl
  | 29, _ => rfl
  | 30, _ => rfl
  | 31, _ => rfl
  | 32, _ => rfl
  | 33, _ => rfl
  | 34, _ => rfl
  | 35, _ => rfl
  | q + 36, h => exact absurd h (by omega)
theorem PkB.new {w : World} {G : Nat} {sz usv : Value} {bank : Int} (h : Blk w G 76 (pk0 sz usv bank)) : PkB w G sz [] (.slice none 0 0) (.slice none 0 0) usv bank (-1) :=
  ⟨_, h, rfl, rfl, fun i k hi hk => by
    rw [show 1 + i * 6 + k = 1 + (i * 6 + k) by omega, pk0_z _ _ _ _ (by omega)]
    simp [cntP], rfl, rfl, rfl, rfl, rfl⟩
theorem cntP_snoc (prs : List Pr) (q : Pr) (i k : Nat) : cntP (prs ++ [q]) i k = cntP prs i k + if max q.1 q.2 = (i : Int) ∧ min q.1 q.2 = (k : Int) then 1 else 0 := by
  unfold cntP
  rw [List.filter_append, List.length_append]
  congr 1
  rw [List.filter_cons, List.filter_nil]
  by_cases h : max q.1 q.2 = (i : Int) ∧ min q.1 q.2 = (k : Int)
  · rw [if_pos (by simpa using h), if_pos h]; rfl
  · rw [if_neg (by simpa using h), if_neg h]; rfl
theorem PkB.inc {w : World} {G : Nat} {sz nowv bestv usv : Value} {prs : List Pr} {bank least : Int} (h : PkB w G sz prs nowv bestv usv bank least) (q : Pr) (mx mn : Nat) (h1 : max q.1 q.2 = (mx : Int)) (h2 : min q.1 q.2 = (mn : Int)) (h3 : mx < 6) (h4 : mn < 6) :
    PkB (w.setCell ⟨G, 1 + mx * 6 + mn, none⟩ (.int .i64 ((cntP prs mx mn : Nat) + 1))) G sz (prs ++ [q]) nowv bestv usv bank least := by
  obtain ⟨cs, a0, a1, a2, a3, a4, a5, a6, a7, a8⟩ := h
  refine ⟨_, a0.set_ (1 + mx * 6 + mn) _, by simpa using a1, ?_, fun i k hi hk => ?_, ?_, ?_, ?_, ?_, ?_⟩
  · rw [Array.getElem?_setIfInBounds_ne (by omega)]; exact a2
  · rw [cntP_snoc, h1, h2]
    by_cases e : (mx : Int) = (i : Int) ∧ (mn : Int) = (k : Int)
    · have e1 : mx = i := by omega
      have e2 : mn = k := by omega
      subst e1; subst e2
      rw [if_pos ⟨rfl, rfl⟩]
      have : 1 + mx * 6 + mn < cs.size := by omega
      simp [Array.getElem?_setIfInBounds, this]
    · rw [if_neg e, Array.getElem?_setIfInBounds_ne (by omega)]
      exact a3 i k hi hk
  · rw [Array.getElem?_setIfInBounds_ne (by omega)]; exact a4
  · rw [Array.getElem?_setIfInBounds_ne (by omega)]; exact a5
  · rw [Array.getElem?_setIfInBounds_ne (by omega)]; exact a6
  · rw [Array.getElem?_setIfInBounds_ne (by omega)]; exact a7
  · rw [Array.getElem?_setIfInBounds_ne (by omega)]; exact a8

/-- What Pack answers. -/
def PackP (n : Nat) (zs : List Int) (prs : List Pr) (banks bank : Int) (w : World) (e : Ending) (w' : World) : Prop :=
  ((packE n zs prs banks bank ≠ 0 ∧ e = .returned (.tuple #[.slice none 0 0, .int .i64 0, .int .i64 (packE n zs prs banks bank)])) ∨
   (packE n zs prs banks bank = 0 ∧ ∃ AB cB p, e = .returned (.tuple #[.slice AB n cB, .int .i64 (tryS zs prs banks.toNat bank n [] (-1)), .int .i64 0]) ∧ p.length = n ∧ RdI w' AB (nats p) ∧ FitP zs banks.toNat bank p ∧ tryS zs prs banks.toNat bank n [] (-1) = conf prs p)) ∧ Ext [] w w'
theorem PackP.bad {n : Nat} {zs : List Int} {prs : List Pr} {banks bank c : Int} {w w' : World} (h : packE n zs prs banks bank = c) (hc : c ≠ 0) (hE : Ext [] w w') : PackP n zs prs banks bank w (.returned (.tuple #[.slice none 0 0, .int .i64 0, .int .i64 c])) w' :=
  ⟨.inl ⟨by rw [h]; exact hc, by rw [h]⟩, hE⟩

set_option maxHeartbeats 8000000 in
set_option maxRecDepth 100000 in
theorem pack_any (n m : Nat) (banks bank : Int) (A B : Option Addr) (capA capB : Nat) (zs : List Int) (prs : List Pr) (w : World) (hn : zs.length = n) (hn1 : n ≤ 1000) (hm : prs.length = m) (hm1 : m ≤ 1000) (hA : RdI w A zs) (hB : RdP w B prs) (hAb : ∀ a, A = some a → a.block < w.heap.size) (hBb : ∀ a, B = some a → a.block < w.heap.size) :
    Calls Try.prog 11 #[.slice A n capA, .slice B m capB, .int .i64 banks, .int .i64 bank] w (PackP n zs prs banks bank w) := by
  have HA := hd hA
  have HB := hd hB
  have HN := hd hn
  have HM := hd hm
  have HAB := hd hAb
  have HBB := hd hBb
  have HPE : Hd (packE n zs prs banks bank = if 6 < n then 2 else if (inR banks 1 8 && inR bank 1 4096) = false then 9 else if zs.any badZ = true then 9 else if prs.any (badP n) = true then 1 else if tryS zs prs banks.toNat bank n [] (-1) < 0 then 16 else 0) := hd rfl
  have HHAS := hd (has_pack A n capA zs w hA hn hn1)
  clear hA hB hn hm hAb hBb
  go_enter Try.func11, Try.ntmps11
  by_cases c0 : 6 < n
  · have HV : Hd (packE n zs prs banks bank = 2) := hd (by rw [HPE.out, if_pos c0])
    go_wp2_with fail
    go_ret3
    exact PackP.bad HV.out (by decide) (Ext.refl _ _)
  go_wp2_with fail
  refine (within_any banks 1 8 _).mono ?_
  rintro e w' ⟨rfl, rfl⟩
  cases hb1 : inR banks 1 8
  · have HV : Hd (packE n zs prs banks bank = 9) := hd (by rw [HPE.out, if_neg c0, hb1]; rfl)
    go_wp2_with fail
    go_ret3
    exact PackP.bad HV.out (by decide) (Ext.refl _ _)
  go_wp2_with fail
  refine (within_any bank 1 4096 _).mono ?_
  rintro e w' ⟨rfl, rfl⟩
  cases hb2 : inR bank 1 4096
  · have HV : Hd (packE n zs prs banks bank = 9) := hd (by rw [HPE.out, if_neg c0, hb1, hb2]; rfl)
    go_wp2_with fail
    go_ret3
    exact PackP.bad HV.out (by decide) (Ext.refl _ _)
  have HB1 := hd hb1
  have HB2 := hd hb2
  go_wp2_with fail
  refine HHAS.out.mono ?_
  rintro e w1 ⟨rfl, hE1⟩
  have HE1 := hd hE1
  clear hE1 HHAS
  cases hz : zs.any badZ
  case true =>
    have HV : Hd (packE n zs prs banks bank = 9) := hd (by rw [HPE.out, if_neg c0, HB1.out, HB2.out, hz]; rfl)
    go_wp2_with fail
    go_ret3
    exact PackP.bad HV.out (by decide) HE1.out
  have HZ := hd hz
  have HPE2 : Hd (packE n zs prs banks bank = if prs.any (badP n) = true then 1 else if tryS zs prs banks.toNat bank n [] (-1) < 0 then 16 else 0) := hd (by rw [HPE.out, if_neg c0, HB1.out, HB2.out, hz]; rfl)
  obtain ⟨nb, hnb⟩ : ∃ nb : Nat, banks = nb := ⟨banks.toNat, by unfold inR at hb1; simp at hb1; omega⟩
  subst hnb
  have hnb1 : 1 ≤ nb ∧ nb ≤ 8 := by unfold inR at hb1; simp at hb1; omega
  have HT : Hd (((nb : Int)).toNat = nb) := hd (by omega)
  clear hz hb1 hb2 HPE
  go_wp2_with fail
  go_loopw [34] (fun v wr => ∃ k : Nat, v = .int .i64 k ∧ k ≤ m ∧ Hd (∀ s, s < k → badP n (gp prs s) = false) ∧ Hd (Ext [] w1 wr)) (fun v _ => (m - intOf v).toNat)
  case atStart => exact ⟨0, rfl, Nat.zero_le _, hd fun s hs => absurd hs (by omega), hd (Ext.refl _ _)⟩
  case round =>
    obtain ⟨k, rfl, hk, HF, HE2⟩ := hrel
    rename World => w2
    by_cases hlt : k < m
    · obtain ⟨b, o, rfl, hb, h0, h1⟩ := (HB.out.ext (HE1.out.trans HE2.out) (by simp)).at (k := k) (by have := HM.out; omega)
      have HBP : Hd (badP n (gp prs k) = (!(inR (gp prs k).1 0 ((n : Int) - 1)) || !(inR (gp prs k).2 0 ((n : Int) - 1)) || decide ((gp prs k).1 = (gp prs k).2))) := hd rfl
      have HMEM : Hd (badP n (gp prs k) = true → packE n zs prs nb bank = 1) := hd fun h => by
        rw [HPE2.out, if_pos]
        exact List.any_eq_true.2 ⟨_, List.mem_of_getElem? (gp_lt (by rw [HM.out]; exact hlt)), h⟩
      have HE3 := hd (HE2.out.alloc (.cells #[.int .i64 (gp prs k).1, .int .i64 (gp prs k).2] 69))
      have HV := hd (Blk.new w2 69 #[.int .i64 (gp prs k).1, .int .i64 (gp prs k).2])
      go_upto_region 10 with fail
      generalize hP : w2.heap.size = pb at *
      generalize w2.alloc (.cells #[.int .i64 (gp prs k).1, .int .i64 (gp prs k).2] 69) = w3 at *
      generalize (gp prs k).1 = x at *
      generalize (gp prs k).2 = y at *
      clear hP h0 h1 hb
      have q1 := HV.out.cell
      have q2 := HV.out.lt
      go_wp2_with fail
      refine (within_any x 0 ((n : Int) - 1) _).mono ?_
      rintro e w' ⟨rfl, rfl⟩
      cases hx : inR x 0 ((n : Int) - 1)
      · have HV2 : Hd (packE n zs prs nb bank = 1) := hd (HMEM.out (by rw [HBP.out, hx]; rfl))
        go_wp2_with fail
        go_ret3
        exact PackP.bad HV2.out (by decide) (HE1.out.trans HE3.out)
      have HX := hd hx
      go_wp2_with fail
      refine (within_any y 0 ((n : Int) - 1) _).mono ?_
      rintro e w' ⟨rfl, rfl⟩
      cases hy : inR y 0 ((n : Int) - 1)
      · have HV2 : Hd (packE n zs prs nb bank = 1) := hd (HMEM.out (by rw [HBP.out, HX.out, hy]; rfl))
        go_wp2_with fail
        go_ret3
        exact PackP.bad HV2.out (by decide) (HE1.out.trans HE3.out)
      have HY := hd hy
      by_cases hxy : x = y
      · have HV2 : Hd (packE n zs prs nb bank = 1) := hd (HMEM.out (by rw [HBP.out, decide_eq_true hxy]; simp))
        have e1 : decide (x = y) = true := decide_eq_true hxy
        subst hxy
        go_wp2_with fail
        go_ret3
        exact PackP.bad HV2.out (by decide) (HE1.out.trans HE3.out)
      · have e1 : decide (x = y) = false := decide_eq_false hxy
        have e2 : (x == y) = false := by simpa using hxy
        have HV2 : Hd (badP n (gp prs k) = false) := hd (by rw [HBP.out, HX.out, HY.out, e1]; rfl)
        go_wp2_with fail
        go_roundw
        case rel => exact ⟨k + 1, by go_num, by omega, hd (fun s hs => by
          rcases Nat.lt_or_ge s k with h1 | h1
          · exact HF.out s h1
          · have : s = k := by omega
            rw [this]; exact HV2.out), HE3⟩
        case measure => simp [intOf]; omega
    · have hkm : k = m := by omega
      subst hkm
      have hany := any_of_gp (n := n) (prs := prs) (fun s hs => HF.out s (by rw [← HM.out]; exact hs))
      have HPE3 : Hd (packE n zs prs nb bank = if tryS zs prs nb bank n [] (-1) < 0 then 16 else 0) := hd (by rw [HPE2.out, if_neg (by rw [hany]; decide), HT.out])
      have HOK := hd (pkOk_of HN.out c0 (by rw [HB1.out, HB2.out]; rfl) HZ.out (prOk_of hany) (by rw [HM.out]; exact hm1))
      have hmk := make_int nb (by omega)
      clear HPE2 hany
      have HU3 : Hd (Blk ((w2.alloc (.cells (madeCells #[.int .i64 0] nb) 3)).alloc (.cells #[.slice A n capA, .int .i64 0, .int .i64 0, .int .i64 0, .int .i64 0, .int .i64 0, .int .i64 0, .int .i64 0, .int .i64 0, .int .i64 0, .int .i64 0, .int .i64 0, .int .i64 0, .int .i64 0, .int .i64 0, .int .i64 0, .int .i64 0, .int .i64 0, .int .i64 0, .int .i64 0, .int .i64 0, .int .i64 0, .int .i64 0, .int .i64 0, .int .i64 0, .int .i64 0, .int .i64 0, .int .i64 0, .int .i64 0, .int .i64 0, .int .i64 0, .int .i64 0, .int .i64 0, .int .i64 0, .int .i64 0, .int .i64 0, .int .i64 0, .slice none 0 0, .slice none 0 0, .slice (some ⟨w2.heap.size, 0, none⟩) nb nb, .int .i64 bank, .int .i64 (-1)] 76)) w2.heap.size 3 (Nums (usL zs nb []))) := hd (by rw [usL_zero, numsz]; exact (Blk.new _ _ _).alloc _)
      have HK3 : Hd (PkB ((w2.alloc (.cells (madeCells #[.int .i64 0] nb) 3)).alloc (.cells #[.slice A n capA, .int .i64 0, .int .i64 0, .int .i64 0, .int .i64 0, .int .i64 0, .int .i64 0, .int .i64 0, .int .i64 0, .int .i64 0, .int .i64 0, .int .i64 0, .int .i64 0, .int .i64 0, .int .i64 0, .int .i64 0, .int .i64 0, .int .i64 0, .int .i64 0, .int .i64 0, .int .i64 0, .int .i64 0, .int .i64 0, .int .i64 0, .int .i64 0, .int .i64 0, .int .i64 0, .int .i64 0, .int .i64 0, .int .i64 0, .int .i64 0, .int .i64 0, .int .i64 0, .int .i64 0, .int .i64 0, .int .i64 0, .int .i64 0, .slice none 0 0, .slice none 0 0, .slice (some ⟨w2.heap.size, 0, none⟩) nb nb, .int .i64 bank, .int .i64 (-1)] 76)) (w2.heap.size + 1) (.slice A n capA) [] (.slice none 0 0) (.slice none 0 0) (.slice (some ⟨w2.heap.size, 0, none⟩) nb nb) bank (-1)) := hd (PkB.new (Blk.new' _ _ _ _ (by simp)))
      have HE23 : Hd (Ext [] w2 ((w2.alloc (.cells (madeCells #[.int .i64 0] nb) 3)).alloc (.cells #[.slice A n capA, .int .i64 0, .int .i64 0, .int .i64 0, .int .i64 0, .int .i64 0, .int .i64 0, .int .i64 0, .int .i64 0, .int .i64 0, .int .i64 0, .int .i64 0, .int .i64 0, .int .i64 0, .int .i64 0, .int .i64 0, .int .i64 0, .int .i64 0, .int .i64 0, .int .i64 0, .int .i64 0, .int .i64 0, .int .i64 0, .int .i64 0, .int .i64 0, .int .i64 0, .int .i64 0, .int .i64 0, .int .i64 0, .int .i64 0, .int .i64 0, .int .i64 0, .int .i64 0, .int .i64 0, .int .i64 0, .int .i64 0, .int .i64 0, .slice none 0 0, .slice none 0 0, .slice (some ⟨w2.heap.size, 0, none⟩) nb nb, .int .i64 bank, .int .i64 (-1)] 76))) := hd (((Ext.refl _ _).alloc _).alloc _)
      go_upto_region 14 with fail
      generalize (w2.alloc (.cells (madeCells #[.int .i64 0] nb) 3)).alloc (.cells #[.slice A n capA, .int .i64 0, .int .i64 0, .int .i64 0, .int .i64 0, .int .i64 0, .int .i64 0, .int .i64 0, .int .i64 0, .int .i64 0, .int .i64 0, .int .i64 0, .int .i64 0, .int .i64 0, .int .i64 0, .int .i64 0, .int .i64 0, .int .i64 0, .int .i64 0, .int .i64 0, .int .i64 0, .int .i64 0, .int .i64 0, .int .i64 0, .int .i64 0, .int .i64 0, .int .i64 0, .int .i64 0, .int .i64 0, .int .i64 0, .int .i64 0, .int .i64 0, .int .i64 0, .int .i64 0, .int .i64 0, .int .i64 0, .int .i64 0, .slice none 0 0, .slice none 0 0, .slice (some ⟨w2.heap.size, 0, none⟩) nb nb, .int .i64 bank, .int .i64 (-1)] 76) = w3 at *
      have HE03 := hd ((HE1.out.trans HE2.out).trans HE23.out)
      have hw2 : w.heap.size ≤ w2.heap.size := (HE1.out.trans HE2.out).size
      generalize hU : w2.heap.size = U at *
      clear hU
      go_wp2_with fail
      go_loopw [70] (fun v wr => ∃ q : Nat, v = .int .i64 q ∧ q ≤ k ∧ Hd (PkB wr (U + 1) (.slice A n capA) (prs.take q) (.slice none 0 0) (.slice none 0 0) (.slice (some ⟨U, 0, none⟩) nb nb) bank (-1)) ∧ Hd (Ext [U + 1] w3 wr)) (fun v _ => (k - intOf v).toNat)
      case atStart => exact ⟨0, rfl, Nat.zero_le _, HK3, hd (Ext.refl _ _)⟩
      case round =>
        obtain ⟨q, rfl, hq, HKq, HEq⟩ := hrel
        rename World => w4
        by_cases hlt4 : q < k
        · have hr4 := (HB.out.ext HE03.out (by simp)).ext HEq.out (fun a ha => by have := HBB.out a ha; simp; omega)
          obtain ⟨b, o, rfl, hb, h0, h1⟩ := hr4.at (k := q) (by have := HM.out; omega)
          have hpk := HOK.out.pr (gp prs q) (List.mem_of_getElem? (gp_lt (by have := HM.out; omega)))
          have HTK : Hd (prs.take (q + 1) = prs.take q ++ [gp prs q]) := hd (by rw [List.take_add_one, gp_lt (by have := HM.out; omega)]; rfl)
          have hn6 := HOK.out.n6
          rcases hpr : gp prs q with ⟨x, y⟩
          rw [hpr] at h0 h1 hpk HTK
          obtain ⟨p1, p2, p3, p4, p5⟩ := hpk
          simp only at p1 p2 p3 p4 p5 h0 h1
          obtain ⟨x, rfl⟩ : ∃ t : Nat, x = t := ⟨x.toNat, by omega⟩
          obtain ⟨y, rfl⟩ : ∃ t : Nat, y = t := ⟨y.toNat, by omega⟩
          have HE5 := hd ((Ext.refl [] w4).alloc (.cells #[.int .i64 (x : Int), .int .i64 (y : Int)] 69))
          have HV := hd (Blk.new w4 69 #[.int .i64 (x : Int), .int .i64 (y : Int)])
          go_upto_region 17 with fail
          generalize hP : w4.heap.size = pb at *
          generalize w4.alloc (.cells #[.int .i64 (x : Int), .int .i64 (y : Int)] 69) = w5 at *
          clear hP h0 h1 hb hpr hr4
          have q1 := HV.out.cell
          have q2 := HV.out.lt
          have HK5 := hd (HKq.out.ext HE5.out (by simp))
          have lG := HK5.out.lt
          by_cases hxy : x < y
          · have qc := HK5.out.cp (i := y) (k := x) (by omega) (by omega)
            have fG := HK5.out.frozen (1 + y * 6 + x)
            have hmx : max (x : Int) (y : Int) = (y : Int) := by omega
            have hmn : min (x : Int) (y : Int) = (x : Int) := by omega
            have hcl : cntP (prs.take q) y x ≤ 1000 := by
              have h1 : cntP (prs.take q) y x ≤ (prs.take q).length := List.length_filter_le _ _
              have h2 : (prs.take q).length ≤ prs.length := List.length_take_le' _ _
              have := HM.out; omega
            have HK6 : Hd (PkB ((w5.setCell ⟨U + 1, 1 + y * 6 + x, none⟩ (.int .i64 ((cntP (prs.take q) y x : Nat) + 1))).drew) (U + 1) (.slice A n capA) (prs.take (q + 1)) (.slice none 0 0) (.slice none 0 0) (.slice (some ⟨U, 0, none⟩) nb nb) bank (-1)) := hd (by
              rw [HTK.out]
              exact (HK5.out.inc ((x : Int), (y : Int)) y x hmx hmn (by omega) (by omega)).ext (S := []) ((Ext.refl _ _).drew) (by simp))
            have HE6 : Hd (Ext [U + 1] w3 ((w5.setCell ⟨U + 1, 1 + y * 6 + x, none⟩ (.int .i64 ((cntP (prs.take q) y x : Nat) + 1))).drew)) := hd (((HEq.out.trans HE5.out.nil).setCell (.inl (by simp)) _).drew)
            generalize cntP (prs.take q) y x = cn at *
            go_region
            go_wp2_with fail
            go_roundw
            case rel => exact ⟨q + 1, by go_num, by omega, HK6, HE6⟩
            case measure => simp [intOf]; omega
          · have qc := HK5.out.cp (i := x) (k := y) (by omega) (by omega)
            have fG := HK5.out.frozen (1 + x * 6 + y)
            have hmx : max (x : Int) (y : Int) = (x : Int) := by omega
            have hmn : min (x : Int) (y : Int) = (y : Int) := by omega
            have hcl : cntP (prs.take q) x y ≤ 1000 := by
              have h1 : cntP (prs.take q) x y ≤ (prs.take q).length := List.length_filter_le _ _
              have h2 : (prs.take q).length ≤ prs.length := List.length_take_le' _ _
              have := HM.out; omega
            have HK6 : Hd (PkB ((w5.setCell ⟨U + 1, 1 + x * 6 + y, none⟩ (.int .i64 ((cntP (prs.take q) x y : Nat) + 1))).drew) (U + 1) (.slice A n capA) (prs.take (q + 1)) (.slice none 0 0) (.slice none 0 0) (.slice (some ⟨U, 0, none⟩) nb nb) bank (-1)) := hd (by
              rw [HTK.out]
              exact (HK5.out.inc ((x : Int), (y : Int)) x y hmx hmn (by omega) (by omega)).ext (S := []) ((Ext.refl _ _).drew) (by simp))
            have HE6 : Hd (Ext [U + 1] w3 ((w5.setCell ⟨U + 1, 1 + x * 6 + y, none⟩ (.int .i64 ((cntP (prs.take q) x y : Nat) + 1))).drew)) := hd (((HEq.out.trans HE5.out.nil).setCell (.inl (by simp)) _).drew)
            generalize cntP (prs.take q) x y = cn at *
            go_region
            go_wp2_with fail
            go_roundw
            case rel => exact ⟨q + 1, by go_num, by omega, HK6, HE6⟩
            case measure => simp [intOf]; omega
        · have hqk : q = k := by omega
          subst hqk
          have htk : prs.take q = prs := by rw [← HM.out, List.take_length]
          have hK4 := HKq.out
          rw [htk] at hK4
          have hU4 : U + 1 < w4.heap.size := hK4.lt
          have hu4 := HU3.out.ext HEq.out (by simp)
          have hr4 := (HA.out.ext HE03.out (by simp)).ext HEq.out (fun a ha => by have := HAB.out a ha; simp; omega)
          have hNC : NxC (U + 1) U w4.heap.size A := ⟨hU4, by omega, by omega, fun x hx => by have := HAB.out x hx; omega⟩
          have hS4 : NxS w4 (U + 1) U w4.heap.size n capA nb bank zs prs A [] ([], -1) (.slice none 0 0) (.slice none 0 0) := ⟨hK4, hu4, ⟨rfl, .inl ⟨rfl, rfl⟩⟩, .inl (by simp), hr4⟩
          have HCALL := hd (next_all (U + 1) U w4.heap.size n capA nb bank zs prs A HOK.out hNC n [] ([], -1) (.slice none 0 0) (.slice none 0 0) w4 (by simp) (fit_nil zs nb bank HOK.out.k1) (Nat.le_refl _) hS4 (by simp only; omega))
          have HSN := hd (nextS_snd (zs := zs) (prs := prs) (banks := nb) (bank := bank) (by rw [HN.out]; exact HOK.out.pr) n [] ([], -1) (by simp [HN.out]))
          have HFD := hd (nextS_found (zs := zs) (prs := prs) (banks := nb) (bank := bank) n [] ([], -1) (by simp [HN.out]) (fit_nil zs nb bank HOK.out.k1) (.inl (by simp)))
          have HE04 : Hd (Ext [] w w4) := hd (HE03.out.step HEq.out (fun x hx => .inr (by rw [List.mem_singleton.1 hx]; omega)))
          clear htk hK4 hu4 hr4 hNC hS4
          go_wp2_with fail
          refine HCALL.out.mono ?_
          rintro e w5 ⟨rfl, hE5, now5, best5, hS5, hn5⟩
          have HE05 : Hd (Ext [] w w5) := hd (HE04.out.step hE5 (fun x hx => .inr (by
            simp [Value.ownBlock] at hx
            omega)))
          have HS5 := hd hS5
          have q41 := hS5.pk.c41
          have q38 := hS5.pk.c38
          have lG := hS5.pk.lt
          clear hE5 hS5 hn5 HCALL
          rw [HSN.out] at q41
          generalize hs : nextS zs prs nb bank n [] ([], -1) = sr at *
          have HT2 : Hd ((sr.2 : Int) = tryS zs prs nb bank n [] (-1)) := HSN
          generalize ht : tryS zs prs nb bank n [] (-1) = t at *
          by_cases c4 : t < 0
          · have HV2 : Hd (packE n zs prs nb bank = 16) := hd (by rw [HPE3.out, if_pos c4])
            have e1 : decide (t < 0) = true := decide_eq_true c4
            go_wp2_with fail
            go_ret3
            exact PackP.bad HV2.out (by decide) HE05.out
          · have HV2 : Hd (packE n zs prs nb bank = 0) := hd (by rw [HPE3.out, if_neg c4])
            have e1 : decide (t < 0) = false := decide_eq_false c4
            obtain ⟨A3, cap3, rfl, h3⟩ := HS5.out.be.resolve_left (by rw [HT2.out]; exact c4)
            obtain ⟨f1, f2, f3⟩ := HFD.out.resolve_left (by rw [HT2.out]; exact c4)
            have H3 := hd h3
            have F1 := hd f1
            have F2 := hd f2
            have F3 := hd f3
            have HTT := hd ht
            clear h3 f1 f2 f3 hs ht
            go_wp2_with fail
            go_quiet (fail)
            go_wp2_with fail
            go_ret3
            refine ⟨.inr ⟨HV2.out, A3, cap3, sr.1, by rw [HT.out, HTT.out]; rfl, by rw [F1.out, HN.out], ?_, by rw [HT.out]; exact F2.out, by rw [HT.out, HTT.out, ← HT2.out]; exact F3.out⟩, HE05.out.drewN _⟩
            rcases H3.out with h0 | ⟨g, rfl, hr, _⟩
            · exact .inl (by rw [List.eq_nil_of_length_eq_zero (l := sr.1) (by rw [F1.out, HN.out, h0])]; rfl)
            · exact hr.ext ((Ext.refl [] w5).drewN _) (by simp)
end Go.Proofs.Ytedabpldigcffaa
