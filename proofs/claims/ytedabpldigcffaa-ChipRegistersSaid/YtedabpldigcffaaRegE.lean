/- Which registers are held: the closure and slices.ContainsFunc: the walks; the order is by the lives' beginnings. -/
import Derived.Test.YtedabpldigcffaaRegD
namespace Go.Proofs.Ytedabpldigcffaa
open Go.RowKit
set_option linter.unusedSimpArgs false
set_option linter.unusedVariables false
attribute [local irreducible] relAt

theorem byFr_swo (ls : List Lf) : Sort.SWO (byFr ls) where
  irrefl := fun x => by unfold byFr; exact decide_eq_false (by omega)
  trans := fun x y z h1 h2 => by
    unfold byFr at *
    have := of_decide_eq_true h1
    have := of_decide_eq_true h2
    exact decide_eq_true (by omega)
  ntrans := fun x y z h1 h2 => by
    unfold byFr at *
    have := of_decide_eq_false h1
    have := of_decide_eq_false h2
    exact decide_eq_false (by omega)
theorem ordL_of (ls : List Lf) : OrdL ls (Sort.insertionSort (byFr ls) (Array.range ls.length) 0 ls.length).toList := by
  obtain ⟨hp, hs⟩ := Sort.insertionSort_holds (lt := byFr ls) (byFr_swo ls) (Array.range ls.length) 0 ls.length (Nat.zero_le _) (by simp)
  obtain ⟨hsz, _, hperm⟩ := hp
  generalize Sort.insertionSort (byFr ls) (Array.range ls.length) 0 ls.length = d at *
  have hsz2 : d.size = ls.length := by simpa using hsz
  have hpp : d.toList.Perm (List.range ls.length) := by
    rw [Array.extract_eq_self_of_le (by omega), Array.extract_eq_self_of_le (by simp)] at hperm
    simpa using hperm
  refine ⟨by simpa using hsz2, hpp.nodup_iff.2 List.nodup_range, fun j hj => by simpa using hpp.mem_iff.1 hj, fun s t i j hst hi hj => ?_⟩
  have h1 := (List.getElem?_eq_some_iff.1 hi)
  have h2 := (List.getElem?_eq_some_iff.1 hj)
  obtain ⟨l1, e1⟩ := h1
  obtain ⟨l2, e2⟩ := h2
  simp only [Array.length_toList] at l1 l2
  have := hs s t (Nat.zero_le _) hst (by omega)
  rw [getElem!_pos d t l2, getElem!_pos d s l1] at this
  simp only [Array.getElem_toList] at e1 e2
  rw [e1, e2] at this
  have := of_decide_eq_false this
  omega

/-- The registers so far, behind a variable. -/
def OutV (w : World) (T U n : Nat) (outs : List Int) : Prop := Blk w T 22 #[.slice (some ⟨U, 0, none⟩) n n] ∧ Blk w U 3 (Nums outs) ∧ outs.length = n
theorem OutV.ext {S : List Nat} {w w' : World} {T U n : Nat} {outs : List Int} (h : OutV w T U n outs) (hE : Ext S w w') (hT : T ∉ S) (hU : U ∉ S) : OutV w' T U n outs := ⟨h.1.ext hE hT, h.2.1.ext hE hU, h.2.2⟩
theorem OutV.cell {w : World} {T U n : Nat} {outs : List Int} (h : OutV w T U n outs) (j : Nat) (hj : j < n) : w.cell? ⟨U, j, none⟩ = some (.int .i64 (ot outs j)) := by
  rw [h.2.1.cell]
  have := h.2.2
  simp [Nums, ot, List.getD_eq_getElem?_getD, List.getElem?_eq_getElem (show j < outs.length by omega)]

set_option maxHeartbeats 2000000 in
set_option maxRecDepth 100000 in
theorem held_any (T10 U T12 T2 n i j : Nat) (ls : List Lf) (outs : List Int) (w : World) (ho : OutV w T10 U n outs) (hi : Blk w T12 3 #[.int .i64 (i : Int)]) (hl : LsV w T2 ls n) (hin : i < n) (hjn : j < n) (hn : n ≤ 1000) :
    Calls Try.prog 61 #[.int .i64 j, .pointer (some ⟨T10, 0, none⟩), .pointer (some ⟨T12, 0, none⟩), .pointer (some ⟨T2, 0, none⟩)] w fun e w' => e = .returned (.bool (decide (ot outs j = ot outs i) && decide ((lf ls i).fr ≤ (lf ls j).tt))) ∧ Ext [] w w' := by
  obtain ⟨A, cap, hB, hr, hlen⟩ := hl
  obtain ⟨b1, o1, rfl, hb1, a0, a1, a2, a3⟩ := hr.four (k := i) (by omega)
  obtain ⟨b2, o2, hbo, hb2, c0, c1, c2, c3⟩ := hr.four (k := j) (by omega)
  cases hbo
  have u1 := ho.cell i hin
  have u2 := ho.cell j hjn
  have t1 := ho.1.cell 0
  have tl1 := ho.1.lt
  have tu := ho.2.1.lt
  have t2 := hi.cell 0
  have tl2 := hi.lt
  have t3 := hB.cell 0
  have tl3 := hB.lt
  clear ho hi hB hr hlen a0 a2 a3 c0 c1 c3
  generalize (lf ls i).fr = x at *
  generalize (lf ls j).tt = y at *
  generalize ot outs i = ci at *
  generalize ot outs j = cj at *
  by_cases hc : cj = ci
  · subst hc
    by_cases hxy : x ≤ y
    · go_enter Try.func61, Try.ntmps61
      go_wp2_with fail
      go_quiet (fail)
      go_wp2_with fail
      go_ret
      exact ⟨ret_bool (by simp [hxy]), (Ext.refl _ _).drewN _⟩
    · have hb2 : decide (x ≤ y) = false := by simpa using hxy
      go_enter Try.func61, Try.ntmps61
      go_wp2_with fail
      go_quiet (fail)
      go_wp2_with fail
      go_ret
      exact ⟨ret_bool (by simp [hxy]), (Ext.refl _ _).drewN _⟩
  · have hb : (cj == ci) = false := by simpa using hc
    go_enter Try.func61, Try.ntmps61
    go_wp2_with fail
    go_quiet (fail)
    go_wp2_with fail
    go_ret
    exact ⟨ret_bool (by simp [hc]), (Ext.refl _ _).drewN _⟩

set_option maxHeartbeats 2000000 in
set_option maxRecDepth 100000 in
theorem idxFunc_any (G k cap T10 T12 T2 : Nat) (d : Array Nat) (P : Nat → Bool) (w : World) (h : NB w G d) (hk : k ≤ d.size) (hkl : k ≤ 1000)
    (hc : ∀ W, Ext [] w W → ∀ s, s < k → Calls Try.prog 61 #[.int .i64 (d[s]! : Nat), .pointer (some ⟨T10, 0, none⟩), .pointer (some ⟨T12, 0, none⟩), .pointer (some ⟨T2, 0, none⟩)] W fun e w' => e = .returned (.bool (P d[s]!)) ∧ Ext [] W w') :
    Calls Try.prog 69 #[.slice (some ⟨G, 0, none⟩) k cap, .func (.func 61) #[] #[.pointer (some ⟨T10, 0, none⟩), .pointer (some ⟨T12, 0, none⟩), .pointer (some ⟨T2, 0, none⟩)]] w fun e w' => ∃ r : Int, e = .returned (.int .i64 r) ∧ (0 ≤ r ↔ ∃ s, s < k ∧ P d[s]! = true) ∧ Ext [] w w' := by
  have HC := hd hc
  have HN := hd h
  have HK := hd hk
  clear hc h hk
  go_enter Try.func69, Try.ntmps69
  go_wp2_with fail
  go_loopw [8] (fun i wr => ∃ j : Nat, i = .int .i64 j ∧ j ≤ k ∧ Hd (∀ s, s < j → P d[s]! = false) ∧ Hd (Ext [] w wr)) (fun i _ => (k - intOf i).toNat)
  case atStart => exact ⟨0, rfl, Nat.zero_le _, hd fun s hs => absurd hs (by omega), hd (Ext.refl _ _)⟩
  case round =>
    obtain ⟨j, rfl, hj, HF, HE⟩ := hrel
    by_cases hlt : j < k
    · have hN := HN.out.ext HE.out (by simp)
      have q1 := hN.cell j (by have := HK.out; omega)
      have hcj := HC.out wr HE.out j hlt
      have q2 := hN.lt
      obtain ⟨b, hb⟩ : ∃ b, b = P d[j]! := ⟨_, rfl⟩
      rw [← hb] at hcj
      have HB := hd hb
      generalize d[j]! = x at q1 hcj
      have HCJ := hd hcj
      clear hN hcj hb
      go_wp2_with fail
      refine HCJ.out.mono ?_
      rintro e w3 ⟨rfl, hE3⟩
      have HE3 := hd (HE.out.trans hE3)
      clear hE3
      cases b
      · go_wp2_with fail
        go_roundw
        case rel =>
          refine ⟨j + 1, by go_num, by omega, hd fun s hs => ?_, HE3⟩
          rcases Nat.lt_or_ge s j with h1 | h1
          · exact HF.out s h1
          · have : s = j := by omega
            rw [this]; exact HB.out.symm
        case measure => simp [intOf]; omega
      · go_wp2_with fail
        go_ret
        exact ⟨_, rfl, ⟨fun _ => ⟨j, hlt, HB.out.symm⟩, fun _ => by omega⟩, HE3.out⟩
    · go_wp2_with fail
      go_ret
      refine ⟨_, rfl, ⟨fun h => by omega, ?_⟩, HE.out⟩
      rintro ⟨s, hs, hp⟩
      have := HF.out s (by omega)
      rw [this] at hp; cases hp
set_option maxRecDepth 100000 in
theorem hasFunc_any (G k cap T10 T12 T2 : Nat) (d : Array Nat) (P : Nat → Bool) (w : World) (h : NB w G d) (hk : k ≤ d.size) (hkl : k ≤ 1000)
    (hc : ∀ W, Ext [] w W → ∀ s, s < k → Calls Try.prog 61 #[.int .i64 (d[s]! : Nat), .pointer (some ⟨T10, 0, none⟩), .pointer (some ⟨T12, 0, none⟩), .pointer (some ⟨T2, 0, none⟩)] W fun e w' => e = .returned (.bool (P d[s]!)) ∧ Ext [] W w') :
    Calls Try.prog 40 #[.slice (some ⟨G, 0, none⟩) k cap, .func (.func 61) #[] #[.pointer (some ⟨T10, 0, none⟩), .pointer (some ⟨T12, 0, none⟩), .pointer (some ⟨T2, 0, none⟩)]] w fun e w' => e = .returned (.bool ((d.toList.take k).any P)) ∧ Ext [] w w' := by
  have HX := hd (idxFunc_any G k cap T10 T12 T2 d P w h hk hkl hc)
  have HEQ : Hd ((d.toList.take k).any P = true ↔ ∃ s, s < k ∧ P d[s]! = true) := hd (by
    rw [List.any_eq_true]
    constructor
    · rintro ⟨x, hx, hp⟩
      obtain ⟨s, hs⟩ := List.getElem?_of_mem hx
      rw [List.getElem?_take] at hs
      split at hs
      · rename_i hsk
        refine ⟨s, hsk, ?_⟩
        have hsd : s < d.size := by omega
        rw [getElem!_pos d s hsd]
        simp only [Array.getElem?_toList, Array.getElem?_eq_getElem hsd, Option.some.injEq] at hs
        rw [hs]; exact hp
      · cases hs
    · rintro ⟨s, hs, hp⟩
      have hsd : s < d.size := by omega
      refine ⟨d[s]!, ?_, hp⟩
      refine List.mem_of_getElem? (i := s) ?_
      rw [List.getElem?_take, if_pos hs, getElem!_pos d s hsd]
      simp [hsd])
  clear h hk hc
  go_enter Try.func40, Try.ntmps40
  go_wp2_with fail
  refine HX.out.mono ?_
  rintro e w' ⟨r, rfl, hr, hE⟩
  have HR := hd hr
  have HE := hd hE
  clear hr hE
  go_wp2_with fail
  go_ret
  exact ⟨ret_bool (by rw [Bool.eq_iff_iff, decide_eq_true_iff]; exact HR.out.trans HEQ.out.symm), HE.out⟩
end Go.Proofs.Ytedabpldigcffaa
