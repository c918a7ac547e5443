/- Packing: the plain law: the search that stops early finds what the whole search finds. -/
import Derived.Test.YtedabpldigcffaaBase
namespace Go.Proofs.Ytedabpldigcffaa
open Go.RowKit
set_option linter.unusedSimpArgs false

/-- A pair of elements. -/
abbrev Pr := Int × Int
/-- An entry, or 0. -/
def gi (xs : List Int) (i : Nat) : Int := xs.getD i 0
def gn (p : List Nat) (i : Nat) : Nat := p.getD i 0
theorem gn_lt {p : List Nat} {i : Nat} (h : i < p.length) : p[i]? = some (gn p i) := by
  unfold gn; rw [List.getD_eq_getElem?_getD, List.getElem?_eq_getElem h]; rfl
theorem gi_lt {p : List Int} {i : Nat} (h : i < p.length) : p[i]? = some (gi p i) := by
  unfold gi; rw [List.getD_eq_getElem?_getD, List.getElem?_eq_getElem h]; rfl
theorem gn_snoc_lt {p : List Nat} {i b : Nat} (h : i < p.length) : gn (p ++ [b]) i = gn p i := by
  unfold gn; rw [List.getD_eq_getElem?_getD, List.getD_eq_getElem?_getD, List.getElem?_append_left h]
theorem gn_snoc_eq {p : List Nat} {b : Nat} : gn (p ++ [b]) p.length = b := by
  unfold gn; rw [List.getD_eq_getElem?_getD, List.getElem?_append_right (Nat.le_refl _)]; simp
/-- The numbers of a path. -/
def nats (p : List Nat) : List Int := p.map fun (x : Nat) => (x : Int)
theorem nats_length (p : List Nat) : (nats p).length = p.length := by simp [nats]
theorem gi_nats (p : List Nat) (i : Nat) : gi (nats p) i = gn p i := by
  unfold gi gn nats
  rw [List.getD_eq_getElem?_getD, List.getD_eq_getElem?_getD, List.getElem?_map]
  cases p[i]? <;> simp

/-- A pair is in one bank. -/
def togB (ins : List Int) (p : Pr) : Bool := decide (gi ins p.1.toNat = gi ins p.2.toNat)
/-- How many pairs are in one bank. -/
def tog (ins : List Int) (prs : List Pr) : Int := ((prs.filter (togB ins)).length : Nat)
/-- A pair of the first elements is in one bank. -/
def confB (p : List Nat) (q : Pr) : Bool := decide (q.1.toNat < p.length) && decide (q.2.toNat < p.length) && decide (gn p q.1.toNat = gn p q.2.toNat)
def conf (prs : List Pr) (p : List Nat) : Int := ((prs.filter (confB p)).length : Nat)
theorem filter_le {α : Type} (f g : α → Bool) (h : ∀ x, f x = true → g x = true) : ∀ l : List α, (l.filter f).length ≤ (l.filter g).length
  | [] => by simp
  | x :: l => by
    have := filter_le f g h l
    rw [List.filter_cons, List.filter_cons]
    by_cases hf : f x = true
    · rw [if_pos hf, if_pos (h x hf)]; simp; omega
    · rw [if_neg hf]
      split
      · simp; omega
      · exact this
theorem conf_up (prs : List Pr) (p : List Nat) (b : Nat) : conf prs p ≤ conf prs (p ++ [b]) := by
  unfold conf
  have := filter_le (confB p) (confB (p ++ [b])) (fun q hq => by
    unfold confB at hq ⊢
    simp only [Bool.and_eq_true, decide_eq_true_eq, List.length_append, List.length_singleton] at hq ⊢
    obtain ⟨⟨h1, h2⟩, h3⟩ := hq
    rw [gn_snoc_lt h1, gn_snoc_lt h2]
    exact ⟨⟨by omega, by omega⟩, h3⟩) prs
  omega
/-- The pairs are right. -/
def PrOk (n : Nat) (prs : List Pr) : Prop := ∀ p ∈ prs, 0 ≤ p.1 ∧ p.1 < n ∧ 0 ≤ p.2 ∧ p.2 < n ∧ p.1 ≠ p.2
theorem conf_full {n : Nat} {prs : List Pr} {p : List Nat} (h : PrOk n prs) (hp : p.length = n) : conf prs p = tog (nats p) prs := by
  unfold conf tog
  congr 2
  apply List.filter_congr
  intro q hq
  obtain ⟨h1, h2, h3, h4, _⟩ := h q hq
  unfold confB togB
  rw [gi_nats, gi_nats]
  have e1 : q.1.toNat < p.length := by omega
  have e2 : q.2.toNat < p.length := by omega
  simp only [e1, e2, decide_true, Bool.true_and]
  congr 1
  exact propext ⟨fun h => by rw [h], fun h => by exact_mod_cast h⟩
theorem conf_bd (prs : List Pr) (p : List Nat) : 0 ≤ conf prs p ∧ conf prs p ≤ prs.length := by
  unfold conf
  have := List.length_filter_le (confB p) prs
  omega
theorem tog_bd (prs : List Pr) (p : List Int) : 0 ≤ tog p prs ∧ tog p prs ≤ prs.length := by
  unfold tog
  have := List.length_filter_le (togB p) prs
  omega

/-- What is in a bank. -/
def usedOf : List Nat → List Int → Nat → Int
  | p :: ps, z :: zs, b => (if p = b then z else 0) + usedOf ps zs b
  | _, _, _ => 0
theorem usedOf_snoc (c b : Nat) : ∀ (p : List Nat) (zs : List Int), p.length < zs.length → usedOf (p ++ [c]) zs b = usedOf p zs b + if c = b then gi zs p.length else 0
  | [], [], h => by simp at h
  | [], z :: zs, _ => by simp [usedOf, gi]
  | p :: ps, [], h => by simp at h
  | p :: ps, z :: zs, h => by
    simp only [List.cons_append, usedOf]
    rw [usedOf_snoc c b ps zs (by simpa using h)]
    simp only [gi, List.length_cons, List.getD_cons_succ]
    omega
theorem usedOf_nil (zs : List Int) (b : Nat) : usedOf [] zs b = 0 := by cases zs <;> rfl

/-- The whole search. -/
def tryS (zs : List Int) (prs : List Pr) (banks : Nat) (bank : Int) : Nat → List Nat → Int → Int
  | 0, p, best => if best < 0 ∨ tog (nats p) prs < best then tog (nats p) prs else best
  | d + 1, p, best => (List.range banks).foldl (fun best b => if usedOf p zs b + gi zs p.length ≤ bank then tryS zs prs banks bank d (p ++ [b]) best else best) best
/-- The first banks of the search. -/
def tryL (zs : List Int) (prs : List Pr) (banks : Nat) (bank : Int) (d : Nat) (p : List Nat) (best : Int) (j : Nat) : Int :=
  (List.range j).foldl (fun best b => if usedOf p zs b + gi zs p.length ≤ bank then tryS zs prs banks bank d (p ++ [b]) best else best) best
theorem tryL_succ (zs : List Int) (prs : List Pr) (banks : Nat) (bank : Int) (d : Nat) (p : List Nat) (best : Int) (j : Nat) :
    tryL zs prs banks bank d p best (j + 1) = if usedOf p zs j + gi zs p.length ≤ bank then tryS zs prs banks bank d (p ++ [j]) (tryL zs prs banks bank d p best j) else tryL zs prs banks bank d p best j := by
  unfold tryL
  rw [List.range_succ, List.foldl_append]
  rfl
theorem tryS_succ (zs : List Int) (prs : List Pr) (banks : Nat) (bank : Int) (d : Nat) (p : List Nat) (best : Int) : tryS zs prs banks bank (d + 1) p best = tryL zs prs banks bank d p best banks := rfl
theorem tryS_zero (zs : List Int) (prs : List Pr) (banks : Nat) (bank : Int) (p : List Nat) (best : Int) : tryS zs prs banks bank 0 p best = if best < 0 ∨ tog (nats p) prs < best then tog (nats p) prs else best := rfl

/-- The search that stops early. -/
def nextS (zs : List Int) (prs : List Pr) (banks : Nat) (bank : Int) : Nat → List Nat → List Nat × Int → List Nat × Int
  | 0, p, s => if 0 ≤ s.2 ∧ s.2 ≤ conf prs p then s else (p, conf prs p)
  | d + 1, p, s => if 0 ≤ s.2 ∧ s.2 ≤ conf prs p then s else (List.range banks).foldl (fun s b => if usedOf p zs b + gi zs p.length ≤ bank then nextS zs prs banks bank d (p ++ [b]) s else s) s
def nextL (zs : List Int) (prs : List Pr) (banks : Nat) (bank : Int) (d : Nat) (p : List Nat) (s : List Nat × Int) (j : Nat) : List Nat × Int :=
  (List.range j).foldl (fun s b => if usedOf p zs b + gi zs p.length ≤ bank then nextS zs prs banks bank d (p ++ [b]) s else s) s
theorem nextL_succ (zs : List Int) (prs : List Pr) (banks : Nat) (bank : Int) (d : Nat) (p : List Nat) (s : List Nat × Int) (j : Nat) :
    nextL zs prs banks bank d p s (j + 1) = if usedOf p zs j + gi zs p.length ≤ bank then nextS zs prs banks bank d (p ++ [j]) (nextL zs prs banks bank d p s j) else nextL zs prs banks bank d p s j := by
  unfold nextL
  rw [List.range_succ, List.foldl_append]
  rfl
theorem nextS_succ (zs : List Int) (prs : List Pr) (banks : Nat) (bank : Int) (d : Nat) (p : List Nat) (s : List Nat × Int) : nextS zs prs banks bank (d + 1) p s = if 0 ≤ s.2 ∧ s.2 ≤ conf prs p then s else nextL zs prs banks bank d p s banks := rfl

section
variable {zs : List Int} {prs : List Pr} {banks : Nat} {bank : Int}
/-- What cannot get better stays. -/
theorem tryS_stays (hp : PrOk zs.length prs) : ∀ (d : Nat) (p : List Nat) (best : Int), d + p.length = zs.length → 0 ≤ best → best ≤ conf prs p → tryS zs prs banks bank d p best = best
  | 0, p, best, hd, h0, h1 => by
    rw [tryS_zero, ← conf_full hp (by omega), if_neg (by omega)]
  | d + 1, p, best, hd, h0, h1 => by
    rw [tryS_succ]
    have : ∀ j, tryL zs prs banks bank d p best j = best := by
      intro j
      induction j with
      | zero => rfl
      | succ j ih =>
        rw [tryL_succ, ih]
        split
        · exact tryS_stays hp d (p ++ [j]) best (by simp; omega) h0 (Int.le_trans h1 (conf_up prs p j))
        · rfl
    exact this _
theorem nextS_snd (hp : PrOk zs.length prs) : ∀ (d : Nat) (p : List Nat) (s : List Nat × Int), d + p.length = zs.length → (nextS zs prs banks bank d p s).2 = tryS zs prs banks bank d p s.2
  | 0, p, s, hd => by
    unfold nextS
    rw [tryS_zero, ← conf_full hp (by omega)]
    have := conf_bd prs p
    by_cases h : 0 ≤ s.2 ∧ s.2 ≤ conf prs p
    · rw [if_pos h, if_neg (by omega)]
    · rw [if_neg h, if_pos (by omega)]
  | d + 1, p, s, hd => by
    rw [nextS_succ]
    by_cases h : 0 ≤ s.2 ∧ s.2 ≤ conf prs p
    · rw [if_pos h, tryS_stays hp (d + 1) p s.2 hd h.1 h.2]
    · rw [if_neg h, tryS_succ]
      have : ∀ j, (nextL zs prs banks bank d p s j).2 = tryL zs prs banks bank d p s.2 j := by
        intro j
        induction j with
        | zero => rfl
        | succ j ih =>
          rw [nextL_succ, tryL_succ, ← ih]
          split
          · exact nextS_snd hp d (p ++ [j]) _ (by simp; omega)
          · rfl
      exact this _
/-- A path that fits. -/
def FitP (zs : List Int) (banks : Nat) (bank : Int) (p : List Nat) : Prop := (∀ i, i < p.length → gn p i < banks) ∧ ∀ b, usedOf p zs b ≤ bank
theorem FitP.snoc {p : List Nat} {b : Nat} (h : FitP zs banks bank p) (hp : p.length < zs.length) (hb : b < banks) (hu : usedOf p zs b + gi zs p.length ≤ bank) : FitP zs banks bank (p ++ [b]) := by
  refine ⟨fun i hi => ?_, fun c => ?_⟩
  · rw [List.length_append, List.length_singleton] at hi
    rcases Nat.lt_or_ge i p.length with h1 | h1
    · rw [gn_snoc_lt h1]; exact h.1 i h1
    · have : i = p.length := by omega
      subst this; rw [gn_snoc_eq]; exact hb
  · rw [usedOf_snoc _ _ _ _ hp]
    split
    · rename_i he; subst he; exact hu
    · have := h.2 c; omega
/-- What is found is right. -/
def FoundP (zs : List Int) (prs : List Pr) (banks : Nat) (bank : Int) (s : List Nat × Int) : Prop := s.2 < 0 ∨ (s.1.length = zs.length ∧ FitP zs banks bank s.1 ∧ s.2 = conf prs s.1)
theorem nextS_found : ∀ (d : Nat) (p : List Nat) (s : List Nat × Int), d + p.length = zs.length → FitP zs banks bank p → FoundP zs prs banks bank s → FoundP zs prs banks bank (nextS zs prs banks bank d p s)
  | 0, p, s, hd, hf, hs => by
    unfold nextS
    split
    · exact hs
    · exact .inr ⟨by simp only; omega, hf, rfl⟩
  | d + 1, p, s, hd, hf, hs => by
    rw [nextS_succ]
    split
    · exact hs
    · have : ∀ j, j ≤ banks → FoundP zs prs banks bank (nextL zs prs banks bank d p s j) := by
        intro j
        induction j with
        | zero => exact fun _ => hs
        | succ j ih =>
          intro hj
          rw [nextL_succ]
          split
          · rename_i hu
            exact nextS_found d (p ++ [j]) _ (by simp; omega) (hf.snoc (by omega) (by omega) hu) (ih (by omega))
          · exact ih (by omega)
      exact this _ (Nat.le_refl _)
theorem tryS_bd : ∀ (d : Nat) (p : List Nat) (best : Int), -1 ≤ best → best ≤ prs.length → -1 ≤ tryS zs prs banks bank d p best ∧ tryS zs prs banks bank d p best ≤ prs.length
  | 0, p, best, h0, h1 => by
    rw [tryS_zero]
    have := tog_bd prs (nats p)
    split <;> omega
  | d + 1, p, best, h0, h1 => by
    rw [tryS_succ]
    have : ∀ j, -1 ≤ tryL zs prs banks bank d p best j ∧ tryL zs prs banks bank d p best j ≤ prs.length := by
      intro j
      induction j with
      | zero => exact ⟨h0, h1⟩
      | succ j ih =>
        rw [tryL_succ]
        split
        · exact tryS_bd d (p ++ [j]) _ ih.1 ih.2
        · exact ih
    exact this _
end

/-- How many pairs two elements have. -/
def cntP (prs : List Pr) (i k : Nat) : Nat := (prs.filter fun q => decide (max q.1 q.2 = (i : Int)) && decide (min q.1 q.2 = (k : Int))).length
/-- The pairs of an element with the first others. -/
def rowC (prs : List Pr) (p : List Nat) (i : Nat) : Nat → Nat
  | 0 => 0
  | k + 1 => rowC prs p i k + if gn p i = gn p k then cntP prs i k else 0
def allC (prs : List Pr) (p : List Nat) : Nat → Nat
  | 0 => 0
  | i + 1 => allC prs p i + rowC prs p i i
theorem rowC_cons (q : Pr) (prs : List Pr) (p : List Nat) (i : Nat) : ∀ k, rowC (q :: prs) p i k = rowC prs p i k + if max q.1 q.2 = (i : Int) ∧ 0 ≤ min q.1 q.2 ∧ min q.1 q.2 < (k : Int) ∧ gn p i = gn p (min q.1 q.2).toNat then 1 else 0
  | 0 => by
    simp only [rowC]
    rw [if_neg (by omega)]
  | k + 1 => by
    simp only [rowC]
    rw [rowC_cons q prs p i k]
    have hc : cntP (q :: prs) i k = cntP prs i k + if max q.1 q.2 = (i : Int) ∧ min q.1 q.2 = (k : Int) then 1 else 0 := by
      unfold cntP
      rw [List.filter_cons]
      by_cases h : max q.1 q.2 = (i : Int) ∧ min q.1 q.2 = (k : Int)
      · rw [if_pos (by simpa using h), if_pos h]; rfl
      · rw [if_neg (by simpa using h), if_neg h]; rfl
    rw [hc]
    generalize max q.1 q.2 = mx at *
    generalize min q.1 q.2 = mn at *
    by_cases h2 : mn = (k : Int)
    · subst h2
      have h3 : (k : Int).toNat = k := by omega
      have h5 : ((k : Int) < (k : Int)) = False := eq_false (by omega)
      have h6 : (0 ≤ (k : Int)) = True := eq_true (by omega)
      have h7 : ((k : Int) < ((k + 1 : Nat) : Int)) = True := eq_true (by omega)
      by_cases h4 : gn p i = gn p k <;> by_cases h1 : mx = (i : Int) <;> simp only [h1, h3, h4, h5, h6, h7, if_true, if_false, and_true, true_and, and_false, false_and, and_self] <;> omega
    · have h7 : (mn < ((k + 1 : Nat) : Int)) = (mn < (k : Int)) := propext (by omega)
      simp only [h2, h7, and_false, if_false, Nat.add_zero]
      omega
theorem rowC_nil (p : List Nat) (i : Nat) : ∀ k, rowC [] p i k = 0
  | 0 => rfl
  | k + 1 => by simp [rowC, rowC_nil p i k, cntP]
theorem allC_nil (p : List Nat) : ∀ k, allC [] p k = 0
  | 0 => rfl
  | k + 1 => by simp [allC, allC_nil p k, rowC_nil]
theorem allC_cons (q : Pr) (hq : 0 ≤ q.1 ∧ 0 ≤ q.2 ∧ q.1 ≠ q.2) (prs : List Pr) (p : List Nat) : ∀ k, allC (q :: prs) p k = allC prs p k + if q.1.toNat < k ∧ q.2.toNat < k ∧ gn p q.1.toNat = gn p q.2.toNat then 1 else 0
  | 0 => by simp [allC]
  | k + 1 => by
    simp only [allC]
    rw [allC_cons q hq prs p k, rowC_cons]
    obtain ⟨h0, h1, h2⟩ := hq
    by_cases e1 : q.1 < q.2
    · have m1 : max q.1 q.2 = q.2 := by omega
      have m2 : min q.1 q.2 = q.1 := by omega
      rw [m1, m2]
      by_cases e2 : q.2 = (k : Int)
      · have e3 : q.2.toNat = k := by omega
        rw [e3]
        by_cases e4 : gn p q.1.toNat = gn p k
        · rw [if_neg (by omega), if_pos (by refine ⟨e2, h0, ?_, e4.symm⟩; omega), if_pos (by refine ⟨?_, ?_, e4⟩ <;> omega)]; omega
        · rw [if_neg (by omega), if_neg (fun h => e4 h.2.2.2.symm), if_neg (fun h => e4 h.2.2)]; omega
      · rw [if_neg (fun h : _ ∧ _ => e2 h.1)]
        by_cases e4 : gn p q.1.toNat = gn p q.2.toNat
        · by_cases e5 : q.2.toNat < k
          · rw [if_pos (by refine ⟨?_, e5, e4⟩; omega), if_pos (by refine ⟨?_, ?_, e4⟩ <;> omega)]; omega
          · rw [if_neg (by omega), if_neg (by omega)]; omega
        · rw [if_neg (fun h => e4 h.2.2), if_neg (fun h => e4 h.2.2)]; omega
    · have m1 : max q.1 q.2 = q.1 := by omega
      have m2 : min q.1 q.2 = q.2 := by omega
      rw [m1, m2]
      by_cases e2 : q.1 = (k : Int)
      · have e3 : q.1.toNat = k := by omega
        rw [e3]
        by_cases e4 : gn p k = gn p q.2.toNat
        · rw [if_neg (by omega), if_pos (by refine ⟨e2, h1, ?_, e4⟩; omega), if_pos (by refine ⟨?_, ?_, e4⟩ <;> omega)]; omega
        · rw [if_neg (by omega), if_neg (fun h => e4 h.2.2.2), if_neg (fun h => e4 h.2.2)]; omega
      · rw [if_neg (fun h : _ ∧ _ => e2 h.1)]
        by_cases e4 : gn p q.1.toNat = gn p q.2.toNat
        · by_cases e5 : q.1.toNat < k
          · rw [if_pos (by refine ⟨e5, ?_, e4⟩; omega), if_pos (by refine ⟨?_, ?_, e4⟩ <;> omega)]; omega
          · rw [if_neg (by omega), if_neg (by omega)]; omega
        · rw [if_neg (fun h => e4 h.2.2), if_neg (fun h => e4 h.2.2)]; omega
theorem allC_conf {n : Nat} (p : List Nat) : ∀ prs : List Pr, PrOk n prs → conf prs p = (allC prs p p.length : Nat)
  | [], _ => by simp [conf, allC_nil]
  | q :: prs, h => by
    have hq := h q (by simp)
    have ih := allC_conf p prs (fun x hx => h x (by simp [hx]))
    rw [allC_cons q ⟨hq.1, hq.2.2.1, hq.2.2.2.2⟩]
    have : conf (q :: prs) p = conf prs p + if confB p q = true then 1 else 0 := by
      unfold conf
      rw [List.filter_cons]
      split <;> simp
    rw [this, ih]
    have e : (confB p q = true) ↔ (q.1.toNat < p.length ∧ q.2.toNat < p.length ∧ gn p q.1.toNat = gn p q.2.toNat) := by
      unfold confB
      simp only [Bool.and_eq_true, decide_eq_true_eq]
      exact ⟨fun h => ⟨h.1.1, h.1.2, h.2⟩, fun h => ⟨⟨h.1, h.2.1⟩, h.2.2⟩⟩
    by_cases h : confB p q = true
    · rw [if_pos h, if_pos (e.1 h)]; simp
    · rw [if_neg h, if_neg (fun g => h (e.2 g))]; simp
theorem rowC_le (prs : List Pr) (p : List Nat) (i : Nat) : ∀ k, rowC prs p i k ≤ k * prs.length
  | 0 => by simp [rowC]
  | k + 1 => by
    simp only [rowC]
    have := rowC_le prs p i k
    have h2 : cntP prs i k ≤ prs.length := List.length_filter_le _ _
    rw [Nat.succ_mul]
    split <;> omega
end Go.Proofs.Ytedabpldigcffaa
