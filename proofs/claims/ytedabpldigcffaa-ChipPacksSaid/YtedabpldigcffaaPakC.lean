/- FewestTogether: the walk. Condition: few small sizes, right pairs. -/
import Derived.Test.YtedabpldigcffaaPakB
import Derived.BigQuiet
import Derived.BigRegion
namespace Go.Proofs.Ytedabpldigcffaa
open Go.RowKit
set_option linter.unusedSimpArgs false
set_option linter.unusedVariables false

/-- The sizes, the pairs and the banks are right. -/
structure PkOk (n banks : Nat) (bank : Int) (zs : List Int) (prs : List Pr) : Prop where
  len : zs.length = n
  n6 : n ≤ 6
  b1 : 1 ≤ banks
  b8 : banks ≤ 8
  k1 : 1 ≤ bank
  k2 : bank ≤ 4096
  z : ∀ x ∈ zs, 1 ≤ x ∧ x ≤ 4096
  pr : PrOk n prs
  pl : prs.length ≤ 1000
theorem PkOk.gi {n banks : Nat} {bank : Int} {zs : List Int} {prs : List Pr} (h : PkOk n banks bank zs prs) {i : Nat} (hi : i < n) : 1 ≤ gi zs i ∧ gi zs i ≤ 4096 :=
  h.z _ (List.mem_of_getElem? (gi_lt (by rw [h.len]; exact hi)))
theorem usedOf_pos (b : Nat) : ∀ (p : List Nat) (zs : List Int), (∀ x ∈ zs, 1 ≤ x ∧ x ≤ 4096) → 0 ≤ usedOf p zs b
  | [], zs, _ => by rw [usedOf_nil]; omega
  | p :: ps, [], _ => by simp [usedOf]
  | p :: ps, z :: zs, h => by
    simp only [usedOf]
    have h1 := usedOf_pos b ps zs (fun x hx => h x (by simp [hx]))
    have h2 := h z (by simp)
    split <;> omega
/-- What is in each bank. -/
def usL (zs : List Int) (banks : Nat) (p : List Nat) : List Int := (List.range banks).map (usedOf p zs)
theorem usL_length (zs : List Int) (banks : Nat) (p : List Nat) : (usL zs banks p).length = banks := by simp [usL]
theorem usL_get (zs : List Int) {banks : Nat} (p : List Nat) {b : Nat} (hb : b < banks) : (usL zs banks p)[b]? = some (usedOf p zs b) := by
  unfold usL
  rw [List.getElem?_map, List.getElem?_range hb]; rfl
theorem usL_up {zs : List Int} {banks : Nat} {p : List Nat} {j : Nat} (hp : p.length < zs.length) : (usL zs banks p).set j (usedOf p zs j + gi zs p.length) = usL zs banks (p ++ [j]) := by
  apply List.ext_getElem?
  intro i
  rw [List.getElem?_set]
  by_cases hi : i < banks
  · rw [usL_get zs (p ++ [j]) hi, usedOf_snoc _ _ _ _ hp, usL_length]
    by_cases hj : j = i
    · subst hj; rw [if_pos rfl, if_pos hi, if_pos rfl]
    · rw [if_neg hj, usL_get zs p hi, if_neg hj]; simp
  · rw [List.getElem?_eq_none (l := usL zs banks (p ++ [j])) (by rw [usL_length]; omega), usL_length]
    by_cases hj : j = i
    · subst hj; rw [if_pos rfl, if_neg hi]
    · rw [if_neg hj, List.getElem?_eq_none (by rw [usL_length]; omega)]
theorem usL_down {zs : List Int} {banks : Nat} {p : List Nat} {j : Nat} (hp : p.length < zs.length) : (usL zs banks (p ++ [j])).set j (usedOf (p ++ [j]) zs j - gi zs p.length) = usL zs banks p := by
  apply List.ext_getElem?
  intro i
  rw [List.getElem?_set]
  by_cases hi : i < banks
  · rw [usL_get zs (p ++ [j]) hi, usedOf_snoc _ _ _ _ hp, usedOf_snoc _ _ _ _ hp, usL_length, usL_get zs p hi]
    by_cases hj : j = i
    · subst hj; rw [if_pos rfl, if_pos hi, if_pos rfl]; simp
    · rw [if_neg hj, if_neg hj]; simp
  · rw [List.getElem?_eq_none (l := usL zs banks p) (by rw [usL_length]; omega), usL_length]
    by_cases hj : j = i
    · subst hj; rw [if_pos rfl, if_neg hi]
    · rw [if_neg hj, List.getElem?_eq_none (by rw [usL_length]; omega)]
theorem nums_get {l : List Int} {i : Nat} {x : Int} (h : l[i]? = some x) : (Nums l)[i]? = some (.int .i64 x) := by
  unfold Nums; simp [h]
theorem nums_set (l : List Int) (i : Nat) (x : Int) : (Nums l).setIfInBounds i (.int .i64 x) = Nums (l.set i x) := by
  unfold Nums; simp

/-- What the closure reads. -/
structure TryC (w : World) (H n banks : Nat) (bank : Int) (A B : Option Addr) (capA capB m : Nat) (zs : List Int) (prs : List Pr) : Prop where
  b4 : Blk w H 22 #[.slice A n capA]
  b5 : Blk w (H + 1) 28 #[.slice B m capB]
  b6 : Blk w (H + 2) 3 #[.int .i64 banks]
  b7 : Blk w (H + 3) 3 #[.int .i64 bank]
  b10 : Blk w (H + 6) 22 #[.slice (some ⟨H + 5, 0, none⟩) n n]
  b11 : Blk w (H + 8) 22 #[.slice (some ⟨H + 7, 0, none⟩) banks banks]
  b12 : Blk w (H + 9) 79 #[.func (.func 46) #[] #[.pointer (some ⟨H, 0, none⟩), .pointer (some ⟨H + 6, 0, none⟩), .pointer (some ⟨H + 1, 0, none⟩), .pointer (some ⟨H + 4, 0, none⟩), .pointer (some ⟨H + 2, 0, none⟩), .pointer (some ⟨H + 8, 0, none⟩), .pointer (some ⟨H + 3, 0, none⟩), .pointer (some ⟨H + 9, 0, none⟩)]]
  rz : RdI w A zs
  az : ∀ a, A = some a → a.block < H
  rp : RdP w B prs
  ap : ∀ a, B = some a → a.block < H
theorem TryC.ext {w w' : World} {H n banks : Nat} {bank : Int} {A B : Option Addr} {capA capB m : Nat} {zs : List Int} {prs : List Pr} (h : TryC w H n banks bank A B capA capB m zs prs) (hE : Ext [H + 4, H + 5, H + 7] w w') : TryC w' H n banks bank A B capA capB m zs prs :=
  ⟨h.b4.ext hE (by simp), h.b5.ext hE (by simp), h.b6.ext hE (by simp), h.b7.ext hE (by simp), h.b10.ext hE (by simp), h.b11.ext hE (by simp), h.b12.ext hE (by simp),
   h.rz.ext hE (fun a ha => by have := h.az a ha; simp; omega), h.az, h.rp.ext hE (fun a ha => by have := h.ap a ha; simp; omega), h.ap⟩
/-- What the closure turns. -/
def TryV (w : World) (H n banks : Nat) (zs : List Int) (p : List Nat) (best : Int) : Prop :=
  Blk w (H + 4) 3 #[.int .i64 best] ∧ Blk w (H + 7) 3 (Nums (usL zs banks p)) ∧ ∃ ins : List Int, ins.length = n ∧ ins.take p.length = nats p ∧ Blk w (H + 5) 3 (Nums ins)
theorem TryV.ext {w w' : World} {H n banks : Nat} {zs : List Int} {p : List Nat} {best : Int} {S : List Nat} (h : TryV w H n banks zs p best) (hE : Ext S w w') (h4 : H + 4 ∉ S) (h5 : H + 5 ∉ S) (h7 : H + 7 ∉ S) : TryV w' H n banks zs p best := by
  obtain ⟨a, b, ins, c, d, e⟩ := h
  exact ⟨a.ext hE h4, b.ext hE h7, ins, c, d, e.ext hE h5⟩
/-- What the closure does. -/
def TryP (H n banks : Nat) (bank : Int) (zs : List Int) (prs : List Pr) (d : Nat) (p : List Nat) (best : Int) (w : World) (e : Ending) (w' : World) : Prop :=
  e = .returned (.tuple #[]) ∧ Ext [H + 4, H + 5, H + 7] w w' ∧ TryV w' H n banks zs p (tryS zs prs banks bank d p best)

set_option maxHeartbeats 4000000 in
set_option maxRecDepth 100000 in
theorem try_zero (H n banks m : Nat) (bank : Int) (A B : Option Addr) (capA capB : Nat) (zs : List Int) (prs : List Pr) (hok : PkOk n banks bank zs prs) (hm : prs.length = m) (p : List Nat) (best : Int) (w : World) (hp : p.length = n) (hc : TryC w H n banks bank A B capA capB m zs prs) (hv : TryV w H n banks zs p best) (hb : -1 ≤ best ∧ best ≤ 1000) :
    Calls Try.prog 46 #[.int .i64 (p.length : Nat), .pointer (some ⟨H, 0, none⟩), .pointer (some ⟨H + 6, 0, none⟩), .pointer (some ⟨H + 1, 0, none⟩), .pointer (some ⟨H + 4, 0, none⟩), .pointer (some ⟨H + 2, 0, none⟩), .pointer (some ⟨H + 8, 0, none⟩), .pointer (some ⟨H + 3, 0, none⟩), .pointer (some ⟨H + 9, 0, none⟩)] w (TryP H n banks bank zs prs 0 p best w) := by
  have HC := hd hc
  have HOK := hd hok
  obtain ⟨v1, v2, ins, v3, v4, v5⟩ := hv
  have hins : ins = nats p := by rw [← v4, List.take_of_length_le (by omega)]
  subst hins
  have HV1 := hd v1
  have HV2 := hd v2
  have HV3 := hd v3
  have HV4 := hd v4
  have HV5 := hd v5
  have HTG := hd (fun W (hW : Ext [] w W) => together_any (some ⟨H + 5, 0, none⟩) B n capB n m (nats p) prs W (.inr ⟨_, 0, rfl, fun i x hx => by
    rw [Nat.zero_add]; exact (v5.ext hW (by simp)).cell i ▸ nums_get hx⟩) (hc.rp.ext hW (by simp)) v3 hm hok.pr (by have := hok.n6; omega) (by have := hok.pl; omega))
  have hbt := tog_bd prs (nats p)
  have hpl := hok.pl
  have HT0 := hd (tryS_zero zs prs banks bank p best)
  have q4 := hc.b4.cell 0
  have l4 := hc.b4.lt
  have q10 := hc.b10.cell 0
  have l10 := hc.b10.lt
  have q5 := hc.b5.cell 0
  have l5 := hc.b5.lt
  have q9 := v1.cell 0
  have f9 := v1.frozen 0
  have l9 := v1.lt
  rw [hp]
  clear hc hok v1 v2 v3 v4 v5
  go_enter Try.func46, Try.ntmps46
  go_wp2_with fail
  refine (HTG.out _ (Ext.refl _ _)).mono ?_
  rintro e w2 ⟨rfl, hE2⟩
  have HE2 := hd hE2
  have hV2 := HV1.out.ext hE2 (by simp)
  have HV12 := hd hV2
  clear q4 l4 q10 l10 q5 l5 q9 f9 l9 hE2
  have q9 := hV2.cell 0
  have f9 := hV2.frozen 0
  have l9 := hV2.lt
  clear hV2
  generalize tog (nats p) prs = t at *
  have HEN : Hd (∀ w3, Ext [] w2 w3 → Ext [H + 4, H + 5, H + 7] w w3) := hd fun w3 h => HE2.out.nil.trans h.nil
  have HVN : Hd (∀ w3 b, Ext [H + 4] w2 w3 → Blk w3 (H + 4) 3 #[.int .i64 b] → TryV w3 H n banks zs p b) := hd fun w3 b h h4 =>
    ⟨h4, (HV2.out.ext HE2.out (by simp)).ext h (by simp), nats p, HV3.out, HV4.out, (HV5.out.ext HE2.out (by simp)).ext h (by simp)⟩
  have HEW : Hd (Ext [H + 4] w2 (w2.setCell ⟨H + 4, 0, none⟩ (.int .i64 t))) := hd ((Ext.refl _ _).setCell (.inl (by simp)) _)
  have HBW : Hd (Blk (w2.setCell ⟨H + 4, 0, none⟩ (.int .i64 t)) (H + 4) 3 #[.int .i64 t]) := hd (HV12.out.set_' 0 _ _ rfl)
  have HEE : Hd (Ext [H + 4, H + 5, H + 7] w (w2.setCell ⟨H + 4, 0, none⟩ (.int .i64 t))) := hd (HE2.out.nil.setCell (.inl (by simp)) _)
  by_cases c1 : best < 0
  · have e1 : decide (best < 0) = true := by simpa using c1
    have HS : Hd (tryS zs prs banks bank 0 p best = t) := hd (by rw [HT0.out, if_pos (.inl c1)])
    go_wp2_with fail
    go_end0
    exact ⟨rfl, HEE.out, by rw [HS.out]; exact HVN.out _ _ HEW.out HBW.out⟩
  · have e1 : decide (best < 0) = false := by simpa using c1
    by_cases c2 : t < best
    · have e2 : decide (t < best) = true := by simpa using c2
      have HS : Hd (tryS zs prs banks bank 0 p best = t) := hd (by rw [HT0.out, if_pos (.inr c2)])
      go_wp2_with fail
      go_end0
      exact ⟨rfl, HEE.out, by rw [HS.out]; exact HVN.out _ _ HEW.out HBW.out⟩
    · have e2 : decide (t < best) = false := by simpa using c2
      have HS : Hd (tryS zs prs banks bank 0 p best = best) := hd (by rw [HT0.out, if_neg (by omega)])
      go_wp2_with fail
      go_end0
      exact ⟨rfl, HEN.out _ (Ext.refl _ _), by rw [HS.out]; exact HVN.out _ _ (Ext.refl _ _) HV12.out⟩

/-- The path so far behind the bank j. -/
theorem take_snoc {ins : List Int} {p : List Nat} {n j : Nat} (hl : ins.length = n) (hp : p.length < n) (h : ins.take p.length = nats p) : (ins.set p.length (j : Int)).take (p ++ [j]).length = nats (p ++ [j]) := by
  rw [List.length_append, List.length_singleton, List.take_add_one, List.take_set_of_le (Nat.le_refl _), h]
  rw [List.getElem?_set_self (by omega)]
  simp [nats]
theorem take_back {ins : List Int} {p : List Nat} {j : Nat} (h : ins.take (p ++ [j]).length = nats (p ++ [j])) : ins.take p.length = nats p := by
  have := congrArg (List.take p.length) h
  rw [List.take_take, List.length_append, List.length_singleton, Nat.min_eq_left (by omega)] at this
  rw [this]
  unfold nats
  rw [List.map_append, List.take_left' (by simp)]

set_option maxHeartbeats 8000000 in
set_option maxRecDepth 100000 in
theorem try_any (H n banks m : Nat) (bank : Int) (A B : Option Addr) (capA capB : Nat) (zs : List Int) (prs : List Pr) (hok : PkOk n banks bank zs prs) (hm : prs.length = m) : ∀ (d : Nat) (p : List Nat) (best : Int) (w : World), d + p.length = n → FitP zs banks bank p → TryC w H n banks bank A B capA capB m zs prs → TryV w H n banks zs p best → -1 ≤ best ∧ best ≤ prs.length →
    Calls Try.prog 46 #[.int .i64 (p.length : Nat), .pointer (some ⟨H, 0, none⟩), .pointer (some ⟨H + 6, 0, none⟩), .pointer (some ⟨H + 1, 0, none⟩), .pointer (some ⟨H + 4, 0, none⟩), .pointer (some ⟨H + 2, 0, none⟩), .pointer (some ⟨H + 8, 0, none⟩), .pointer (some ⟨H + 3, 0, none⟩), .pointer (some ⟨H + 9, 0, none⟩)] w (TryP H n banks bank zs prs d p best w) := by
  intro d
  induction d with
  | zero =>
    intro p best w hp _ hc hv hb
    exact try_zero H n banks m bank A B capA capB zs prs hok hm p best w (by omega) hc hv (by have := hok.pl; omega)
  | succ d ih =>
    intro p best w hp hf hc hv hb
    have HIH := hd ih
    have HC := hd hc
    have HOK := hd hok
    have HF := hd hf
    have HP := hd hp
    have HB := hd hb
    obtain ⟨i, hi⟩ : ∃ i, i = p.length := ⟨_, rfl⟩
    have HI := hd hi
    have hin : i < n := by omega
    have hzi := hok.gi hin
    have hzn : zs.length = n := hok.len
    have hn6 := hok.n6
    have hb8 := hok.b8
    have hk2 := hok.k2
    have hk1 := hok.k1
    have HPZ : Hd (p.length < zs.length) := hd (by omega)
    have HV0 : Hd (TryV w H n banks zs p (tryL zs prs banks bank d p best 0)) := hd hv
    have HZ := hd (fun W (hW : Ext [H + 4, H + 5, H + 7] w W) => ((HC.out.ext hW).rz).at (k := i) (by omega))
    have HS0 := hd (tryS_succ zs prs banks bank d p best)
    have HTB : Hd (∀ j, -1 ≤ tryL zs prs banks bank d p best j ∧ tryL zs prs banks bank d p best j ≤ prs.length) := hd (by
      intro j
      induction j with
      | zero => exact hb
      | succ j ih2 =>
        rw [tryL_succ]
        split
        · exact tryS_bd d (p ++ [j]) _ ih2.1 ih2.2
        · exact ih2)
    have q4 := hc.b4.cell 0
    have l4 := hc.b4.lt
    have q6 := hc.b6.cell 0
    have l6 := hc.b6.lt
    have hne : ((i : Int) == (n : Int)) = false := by simp; omega
    rw [← hi]
    clear hok hf hc hv hp ih hb hi
    go_enter Try.func46, Try.ntmps46
    go_wp2_with fail
    go_loopw [28] (fun v wr => ∃ j : Nat, v = .int .i64 j ∧ j ≤ banks ∧ Hd (Ext [H + 4, H + 5, H + 7] w wr) ∧ Hd (TryV wr H n banks zs p (tryL zs prs banks bank d p best j))) (fun v _ => (banks - intOf v).toNat)
    case atStart => exact ⟨0, rfl, Nat.zero_le _, hd (Ext.refl _ _), HV0⟩
    case round =>
      obtain ⟨j, rfl, hj, HE, HV⟩ := hrel
      rename World => w1
      clear q4 l4 q6 l6
      by_cases hlt : j < banks
      · have hcw := HC.out.ext HE.out
        obtain ⟨v1, v2, ins, v3, v4, v5⟩ := HV.out
        have HCW := hd hcw
        obtain ⟨bA, oA, hA, lA, zA⟩ := HZ.out _ HE.out
        have haz := hcw.az _ hA
        simp only at haz
        have HU := hd (usedOf_pos j p zs HOK.out.z)
        have hu0 := HU.out
        have hu1 := HF.out.2 j
        have hgu : w1.cell? ⟨H + 7, j, none⟩ = some (.int .i64 (usedOf p zs j)) := by rw [v2.cell]; exact nums_get (usL_get zs p hlt)
        have q4 := hcw.b4.cell 0
        have l4 := hcw.b4.lt
        have q7 := hcw.b7.cell 0
        have l7 := hcw.b7.lt
        have q11 := hcw.b11.cell 0
        have l11 := hcw.b11.lt
        have lU := v2.lt
        have fU := v2.frozen j
        have HL := hd (tryL_succ zs prs banks bank d p best j)
        have HDN := hd (usL_down (zs := zs) (banks := banks) (p := p) (j := j) HPZ.out)
        have HUP := hd (usL_up (zs := zs) (banks := banks) (p := p) (j := j) HPZ.out)
        rw [← HI.out] at HL HDN HUP
        have HUS : Hd (usedOf (p ++ [j]) zs j = usedOf p zs j + gi zs i) := hd (by rw [usedOf_snoc _ _ _ _ HPZ.out, if_pos rfl, ← HI.out])
        rw [HUS.out] at HDN
        have HFN : Hd (usedOf p zs j + gi zs i ≤ bank → FitP zs banks bank (p ++ [j])) := hd fun h => HF.out.snoc HPZ.out hlt (by rw [← HI.out]; exact h)
        have HGU := hd (nums_get (usL_get zs p hlt))
        have HV1 := hd v1
        have HV2 := hd v2
        have HV3 := hd v3
        have HV4 := hd v4
        have HV5 := hd v5
        clear hcw v1 v2 v3 v4 v5 HV
        generalize usedOf p zs j = u at *
        generalize gi zs i = z at *
        have hw0 : IntKind.i64.wrap (u + z) = u + z := by rw [IntKind.wrap_i64]; omega
        have hw1 : IntKind.i64.wrap (u + z - z) = u := by rw [IntKind.wrap_i64]; omega
        subst hA
        by_cases hfit : u + z ≤ bank
        · have e1 : decide (u + z ≤ bank) = true := by simpa using hfit
          have HLN : Hd (tryL zs prs banks bank d p best (j + 1) = tryS zs prs banks bank d (p ++ [j]) (tryL zs prs banks bank d p best j)) := hd (by rw [HL.out, if_pos hfit])
          go_wp2_with fail
          go_quiet (fail)
          go_wp2_with fail
          have HD := hd ((Ext.refl [] w1).drewN nq)
          generalize w1.drewN nq = w2 at *
          have hc2 := HCW.out.ext HD.out.nil
          have HC2 := hd hc2
          have hgu : w2.cell? ⟨H + 7, j, none⟩ = some (.int .i64 u) := by rw [(HV2.out.ext HD.out (by simp)).cell]; exact HGU.out
          have q4 := hc2.b4.cell 0
          have l4 := hc2.b4.lt
          have q11 := hc2.b11.cell 0
          have l11 := hc2.b11.lt
          have hB2 := HV2.out.ext HD.out (by simp)
          have lU := hB2.lt
          have fU := hB2.frozen j
          obtain ⟨bA', oA', hA', lA, zA⟩ := HZ.out _ (HE.out.trans HD.out.nil)
          cases hA'
          have HE2 := hd (HE.out.trans HD.out.nil)
          have HB3 : Hd (Blk ((w2.setCell ⟨H + 7, j, none⟩ (.int .i64 (u + z))).drew) (H + 7) 3 (Nums (usL zs banks (p ++ [j])))) := hd (by
            have := hB2.set_ j (.int .i64 (u + z))
            rw [nums_set, HUP.out] at this
            exact this)
          have HE23 : Hd (Ext [H + 7] w2 ((w2.setCell ⟨H + 7, j, none⟩ (.int .i64 (u + z))).drew)) := hd (((Ext.refl _ _).setCell (.inl (by simp)) _).drew)
          have HE3 : Hd (Ext [H + 4, H + 5, H + 7] w ((w2.setCell ⟨H + 7, j, none⟩ (.int .i64 (u + z))).drew)) := hd ((HE2.out.setCell (.inl (by simp)) _).drew)
          clear hc2 hB2
          go_region
          go_upto_region 9 with fail
          generalize (w2.setCell ⟨H + 7, j, none⟩ (.int .i64 (u + z))).drew = w3 at *
          clear hgu q4 l4 q11 l11 lU fU lA zA
          have hc3 := HC.out.ext HE3.out
          have q10 := hc3.b10.cell 0
          have l10 := hc3.b10.lt
          have hI3 := (HV5.out.ext HD.out (by simp)).ext HE23.out (by simp)
          have lI := hI3.lt
          have fI := hI3.frozen i
          have gI : w3.cell? ⟨H + 5, i, none⟩ = some (.int .i64 (gi ins i)) := by rw [hI3.cell]; exact nums_get (gi_lt (by rw [HV3.out]; exact hin))
          have HB4 : Hd (Blk (w3.setCell ⟨H + 5, i, none⟩ (.int .i64 (j : Int))) (H + 5) 3 (Nums (ins.set i (j : Int)))) := hd (by rw [← nums_set]; exact hI3.set_ i _)
          have HE34 : Hd (Ext [H + 5] w3 (w3.setCell ⟨H + 5, i, none⟩ (.int .i64 (j : Int)))) := hd ((Ext.refl _ _).setCell (.inl (by simp)) _)
          have HE4 : Hd (Ext [H + 4, H + 5, H + 7] w (w3.setCell ⟨H + 5, i, none⟩ (.int .i64 (j : Int)))) := hd (HE3.out.setCell (.inl (by simp)) _)
          clear hc3 hI3
          go_upto_region 10 with fail
          generalize w3.setCell ⟨H + 5, i, none⟩ (.int .i64 (j : Int)) = w4 at *
          clear q10 l10 lI fI gI
          have hc4 := HC.out.ext HE4.out
          have hlen : (p ++ [j]).length = i + 1 := by rw [List.length_append, List.length_singleton, HI.out]
          have HCALL := hd (HIH.out (p ++ [j]) (tryL zs prs banks bank d p best j) w4 (by have := HP.out; have := HI.out; omega) (HFN.out hfit) hc4 ⟨((HV1.out.ext HD.out (by simp)).ext HE23.out (by simp)).ext HE34.out (by simp), HB3.out.ext HE34.out (by simp), ins.set i (j : Int), by rw [List.length_set, HV3.out], by rw [HI.out]; exact take_snoc HV3.out (by have := HI.out; omega) HV4.out, HB4.out⟩ (HTB.out j))
          rw [hlen, show ((i + 1 : Nat) : Int) = (i : Int) + 1 by omega] at HCALL
          have q12 := hc4.b12.cell 0
          have l12 := hc4.b12.lt
          clear hc4 hlen
          go_wp2_with fail
          refine HCALL.out.mono ?_
          rintro e w5 ⟨rfl, hE5, hv5⟩
          clear q12 l12
          have HE5 := hd (HE4.out.trans hE5)
          have hc5 := HC.out.ext HE5.out
          obtain ⟨x1, x2, ins2, x3, x4, x5⟩ := hv5
          have q4 := hc5.b4.cell 0
          have l4 := hc5.b4.lt
          have q11 := hc5.b11.cell 0
          have l11 := hc5.b11.lt
          have lU := x2.lt
          have fU := x2.frozen j
          have hgu : w5.cell? ⟨H + 7, j, none⟩ = some (.int .i64 (u + z)) := by rw [x2.cell, ← HUS.out]; exact nums_get (usL_get zs (p ++ [j]) hlt)
          obtain ⟨bA', oA', hA', lA, zA⟩ := HZ.out _ HE5.out
          cases hA'
          have huz : u + z - z = u := by omega
          have HB6 : Hd (Blk ((w5.setCell ⟨H + 7, j, none⟩ (.int .i64 (u + z - z))).drew) (H + 7) 3 (Nums (usL zs banks p))) := hd (by
            have := x2.set_ j (.int .i64 (u + z - z))
            rw [nums_set, HDN.out] at this
            exact this)
          have HE56 : Hd (Ext [H + 7] w5 ((w5.setCell ⟨H + 7, j, none⟩ (.int .i64 (u + z - z))).drew)) := hd (((Ext.refl _ _).setCell (.inl (by simp)) _).drew)
          rw [huz] at HB6 HE56
          have HN : Hd (TryV ((w5.setCell ⟨H + 7, j, none⟩ (.int .i64 u)).drew) H n banks zs p (tryL zs prs banks bank d p best (j + 1))) := hd ⟨by rw [HLN.out]; exact x1.ext HE56.out (by simp), HB6.out, ins2, x3, take_back x4, x5.ext HE56.out (by simp)⟩
          have HE6 : Hd (Ext [H + 4, H + 5, H + 7] w ((w5.setCell ⟨H + 7, j, none⟩ (.int .i64 u)).drew)) := hd ((HE5.out.setCell (.inl (by simp)) _).drew)
          clear hE5 hc5 x1 x2 x4 x5
          go_wp2_with fail
          go_region
          go_wp2_with fail
          go_roundw
          case rel => exact ⟨j + 1, by go_num, by omega, HE6, HN⟩
          case measure => simp [intOf]; omega
        · have e1 : decide (u + z ≤ bank) = false := by simpa using hfit
          have HLN : Hd (tryL zs prs banks bank d p best (j + 1) = tryL zs prs banks bank d p best j) := hd (by rw [HL.out, if_neg hfit])
          go_wp2_with fail
          go_quiet (fail)
          go_wp2_with fail
          go_roundw
          case rel => exact ⟨j + 1, by go_num, by omega, hd (HE.out.drewN _), hd (by rw [HLN.out]; exact ⟨HV1.out.drewN _, HV2.out.drewN _, ins, HV3.out, HV4.out, HV5.out.drewN _⟩)⟩
          case measure => simp [intOf]; omega
      · have hjb : j = banks := by omega
        subst hjb
        go_wp2_with fail
        go_end0
        exact ⟨rfl, HE.out, by rw [HS0.out]; exact HV.out⟩
end Go.Proofs.Ytedabpldigcffaa
