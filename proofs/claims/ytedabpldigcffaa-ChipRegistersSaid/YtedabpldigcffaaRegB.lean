/- Registers for lives: the plain law. Lives in the order of their beginnings, each in the first register that no earlier life still holds: lives that meet are in different registers, and as few are used as lives meet. No program is named here; no condition. -/
import Derived.Test.YtedabpldigcffaaRegA
namespace Go.Proofs.Ytedabpldigcffaa
set_option linter.unusedVariables false

def zL : Lf := ⟨0, 0, 0, 0⟩
/-- The life number j. -/
def lf (ls : List Lf) (j : Nat) : Lf := ls.getD j zL
/-- Life j is live at p. -/
def liveB (ls : List Lf) (p : Int) (j : Nat) : Bool := decide ((lf ls j).fr ≤ p) && decide (p ≤ (lf ls j).tt)
/-- How many are live at p. -/
def liveN (ls : List Lf) (p : Int) : Nat := ((List.range ls.length).filter (liveB ls p)).length
/-- The first k lives' greatest crowd. -/
def crowdK (ls : List Lf) : Nat → Nat
  | 0 => 0
  | k + 1 => max (crowdK ls k) (liveN ls (lf ls k).fr)
def crowdS (ls : List Lf) : Nat := crowdK ls ls.length
theorem crowdK_ge (ls : List Lf) : ∀ k i, i < k → liveN ls (lf ls i).fr ≤ crowdK ls k
  | k + 1, i, h => by
    unfold crowdK
    rcases Nat.lt_or_ge i k with h1 | h1
    · have := crowdK_ge ls k i h1; omega
    · have : i = k := by omega
      subst this; omega
theorem crowdK_le (ls : List Lf) (c : Nat) : ∀ k, (∀ i, i < k → liveN ls (lf ls i).fr ≤ c) → crowdK ls k ≤ c
  | 0, _ => Nat.zero_le _
  | k + 1, h => by
    unfold crowdK
    have := crowdK_le ls c k (fun i hi => h i (by omega))
    have := h k (by omega)
    omega
theorem liveN_le (ls : List Lf) (p : Int) : liveN ls p ≤ ls.length := by
  unfold liveN
  have := List.length_filter_le (liveB ls p) (List.range ls.length)
  simpa using this
theorem crowdS_le (ls : List Lf) : crowdS ls ≤ ls.length := crowdK_le ls _ _ (fun i _ => liveN_le ls _)

/-- Different elements, all of them in a list: no more than it has. -/
theorem nodup_le {α : Type} [DecidableEq α] : ∀ (a b : List α), a.Nodup → (∀ x, x ∈ a → x ∈ b) → a.length ≤ b.length
  | [], _, _, _ => Nat.zero_le _
  | x :: a, b, hn, hs => by
    have hx : x ∈ b := hs x (by simp)
    obtain ⟨h1, h2⟩ := List.nodup_cons.1 hn
    have := nodup_le a (b.erase x) h2 (fun y hy => by
      have hne : y ≠ x := fun e => h1 (e ▸ hy)
      exact (List.mem_erase_of_ne hne).2 (hs y (by simp [hy])))
    rw [List.length_erase_of_mem hx] at this
    have : 0 < b.length := List.length_pos_of_mem hx
    simp only [List.length_cons]
    omega
theorem nodup_map {α β : Type} (f : α → β) : ∀ (l : List α), l.Nodup → (∀ x y, x ∈ l → y ∈ l → f x = f y → x = y) → (l.map f).Nodup
  | [], _, _ => by simp
  | x :: l, hn, h => by
    obtain ⟨h1, h2⟩ := List.nodup_cons.1 hn
    rw [List.map_cons, List.nodup_cons]
    refine ⟨fun hm => ?_, nodup_map f l h2 (fun a b ha hb => h a b (by simp [ha]) (by simp [hb]))⟩
    obtain ⟨y, hy, he⟩ := List.mem_map.1 hm
    have := h y x (by simp [hy]) (by simp) he
    exact h1 (this ▸ hy)

/-- The lives are right: each ends no sooner than it begins. -/
def RightL (ls : List Lf) : Prop := ∀ j, j < ls.length → (lf ls j).fr ≤ (lf ls j).tt
/-- An order of the lives: each once, by their beginnings. -/
structure OrdL (ls : List Lf) (od : List Nat) : Prop where
  len : od.length = ls.length
  nodup : od.Nodup
  lt : ∀ j, j ∈ od → j < ls.length
  sorted : ∀ (s t i j : Nat), s < t → od[s]? = some i → od[t]? = some j → (lf ls i).fr ≤ (lf ls j).fr
theorem OrdL.all {ls : List Lf} {od : List Nat} (h : OrdL ls od) (j : Nat) (hj : j < ls.length) : ∃ t, t < ls.length ∧ od[t]? = some j := by
  have hm : j ∈ od := by
    refine Decidable.byContradiction fun hn => ?_
    have := nodup_le (j :: od) (List.range ls.length) (List.nodup_cons.2 ⟨hn, h.nodup⟩) (fun x hx => by
      rcases List.mem_cons.1 hx with h1 | h1
      · rw [h1]; simpa using hj
      · simpa using h.lt x h1)
    simp only [List.length_cons, List.length_range, h.len] at this
    omega
  obtain ⟨t, ht⟩ := List.getElem?_of_mem hm
  exact ⟨t, by rw [← h.len]; exact (List.getElem?_eq_some_iff.1 ht).1, ht⟩
theorem OrdL.inj {ls : List Lf} {od : List Nat} (h : OrdL ls od) {s t j : Nat} (hs : od[s]? = some j) (ht : od[t]? = some j) : s = t := by
  have h1 := (List.getElem?_eq_some_iff.1 hs)
  have h2 := (List.getElem?_eq_some_iff.1 ht)
  obtain ⟨l1, e1⟩ := h1
  obtain ⟨l2, e2⟩ := h2
  exact (List.getElem_inj (h₀ := l1) (h₁ := l2) h.nodup).1 (e1.trans e2.symm)

def ot (outs : List Int) (j : Nat) : Int := outs.getD j 0
/-- The first k lives of the order have their registers. -/
structure RegInv (ls : List Lf) (od : List Nat) (k : Nat) (outs : List Int) : Prop where
  len : outs.length = ls.length
  lo : ∀ (t j : Nat), t < k → od[t]? = some j → 0 ≤ ot outs j ∧ ot outs j < crowdS ls
  zero : ∀ (t j : Nat), k ≤ t → od[t]? = some j → ot outs j = 0
  apart : ∀ (s t i j : Nat), s < t → t < k → od[s]? = some i → od[t]? = some j → ¬ (ot outs i = ot outs j ∧ (lf ls j).fr ≤ (lf ls i).tt)
/-- The life at place k tries register c: all smaller ones are held. -/
def Held (ls : List Lf) (od : List Nat) (k : Nat) (outs : List Int) (i : Nat) (c : Nat) : Prop :=
  ∀ c', c' < c → ∃ s j, s < k ∧ od[s]? = some j ∧ ot outs j = c' ∧ (lf ls i).fr ≤ (lf ls j).tt
/-- Whether register c is held. -/
def heldB (ls : List Lf) (od : List Nat) (k : Nat) (outs : List Int) (i : Nat) (c : Int) : Bool := (od.take k).any fun j => decide (ot outs j = c) && decide ((lf ls i).fr ≤ (lf ls j).tt)
theorem heldB_iff {ls : List Lf} {od : List Nat} {k : Nat} {outs : List Int} {i : Nat} {c : Int} : heldB ls od k outs i c = true ↔ ∃ s j, s < k ∧ od[s]? = some j ∧ ot outs j = c ∧ (lf ls i).fr ≤ (lf ls j).tt := by
  unfold heldB
  rw [List.any_eq_true]
  constructor
  · rintro ⟨j, hj, hb⟩
    obtain ⟨s, hs⟩ := List.getElem?_of_mem hj
    rw [List.getElem?_take] at hs
    split at hs
    · simp only [Bool.and_eq_true, decide_eq_true_eq] at hb
      exact ⟨s, j, by assumption, hs, hb.1, hb.2⟩
    · cases hs
  · rintro ⟨s, j, hs, hj, h1, h2⟩
    refine ⟨j, ?_, by simp [h1, h2]⟩
    refine List.mem_of_getElem? (i := s) ?_
    rw [List.getElem?_take, if_pos hs]; exact hj

theorem held_lt {ls : List Lf} {od : List Nat} {k i c : Nat} {outs : List Int} (hr : RightL ls) (ho : OrdL ls od) (hi : od[k]? = some i) (hh : Held ls od k outs i c) : c < crowdS ls := by
  have hil : i < ls.length := ho.lt i (List.mem_of_getElem? hi)
  have hJ : ∀ d, d ≤ c → ∃ J : List Nat, J.length = d ∧ J.Nodup ∧ ∀ j, j ∈ J → (∃ s, s < k ∧ od[s]? = some j) ∧ ot outs j < d ∧ (lf ls i).fr ≤ (lf ls j).tt := by
    intro d
    induction d with
    | zero => intro _; exact ⟨[], rfl, by simp, by simp⟩
    | succ d ih =>
      intro hd
      obtain ⟨J, h1, h2, h3⟩ := ih (by omega)
      obtain ⟨s, j, hs, hj, hc, ht⟩ := hh d (by omega)
      refine ⟨j :: J, by simp [h1], List.nodup_cons.2 ⟨fun hm => ?_, h2⟩, fun x hx => ?_⟩
      · have := (h3 j hm).2.1; omega
      · rcases List.mem_cons.1 hx with h | h
        · subst h; exact ⟨⟨s, hs, hj⟩, by omega, ht⟩
        · obtain ⟨a1, a2, a3⟩ := h3 x h
          exact ⟨a1, by omega, a3⟩
  obtain ⟨J, h1, h2, h3⟩ := hJ c (Nat.le_refl _)
  have hn : (i :: J).Nodup := List.nodup_cons.2 ⟨fun hm => by
    obtain ⟨⟨s, hs, hj⟩, _⟩ := h3 i hm
    have := ho.inj hj hi; omega, h2⟩
  have hle := nodup_le (i :: J) ((List.range ls.length).filter (liveB ls (lf ls i).fr)) hn (fun x hx => by
    rw [List.mem_filter]
    rcases List.mem_cons.1 hx with h | h
    · subst h
      exact ⟨by simpa using hil, by simp [liveB, hr x hil]⟩
    · obtain ⟨⟨s, hs, hj⟩, _, ht⟩ := h3 x h
      exact ⟨by simpa using ho.lt x (List.mem_of_getElem? hj), by simp only [liveB, Bool.and_eq_true, decide_eq_true_eq]; exact ⟨ho.sorted s k x i hs hj hi, ht⟩⟩)
  have := crowdK_ge ls ls.length i hil
  simp only [List.length_cons, h1] at hle
  unfold crowdS
  unfold liveN at this
  omega

theorem ot_set {outs : List Int} {i j : Nat} {c : Int} (hi : i < outs.length) : ot (outs.set i c) j = if i = j then c else ot outs j := by
  unfold ot
  rw [List.getD_eq_getElem?_getD, List.getElem?_set, List.getD_eq_getElem?_getD]
  by_cases h : i = j
  · subst h; simp [hi]
  · simp [h]
/-- The register is raised by one. -/
theorem held_up {ls : List Lf} {od : List Nat} {k i c : Nat} {outs : List Int} (ho : OrdL ls od) (hi : od[k]? = some i) (hl : outs.length = ls.length) (hh : Held ls od k outs i c) (hc : ot outs i = c) (hb : heldB ls od k outs i c = true) :
    Held ls od k (outs.set i ((c : Int) + 1)) i (c + 1) := by
  have hil : i < outs.length := by rw [hl]; exact ho.lt i (List.mem_of_getElem? hi)
  have hne : ∀ s j, s < k → od[s]? = some j → i ≠ j := fun s j hs hj e => by subst e; have := ho.inj hj hi; omega
  intro c' hc'
  have : ∃ s j, s < k ∧ od[s]? = some j ∧ ot outs j = c' ∧ (lf ls i).fr ≤ (lf ls j).tt := by
    rcases Nat.lt_or_ge c' c with h | h
    · exact hh c' h
    · have : c' = c := by omega
      subst this; exact heldB_iff.1 hb
  obtain ⟨s, j, hs, hj, h1, h2⟩ := this
  exact ⟨s, j, hs, hj, by rw [ot_set hil, if_neg (hne s j hs hj)]; exact h1, h2⟩
/-- What holds while the life at place k looks for its register. -/
structure RegTry (ls : List Lf) (od : List Nat) (k i c : Nat) (outs : List Int) : Prop where
  len : outs.length = ls.length
  at_ : ot outs i = c
  lo : ∀ (t j : Nat), t < k → od[t]? = some j → 0 ≤ ot outs j ∧ ot outs j < crowdS ls
  zero : ∀ (t j : Nat), k < t → od[t]? = some j → ot outs j = 0
  apart : ∀ (s t i j : Nat), s < t → t < k → od[s]? = some i → od[t]? = some j → ¬ (ot outs i = ot outs j ∧ (lf ls j).fr ≤ (lf ls i).tt)
  held : Held ls od k outs i c
theorem RegInv.start {ls : List Lf} {od : List Nat} {k i : Nat} {outs : List Int} (h : RegInv ls od k outs) (hi : od[k]? = some i) : RegTry ls od k i 0 outs :=
  ⟨h.len, h.zero k i (Nat.le_refl _) hi, h.lo, fun t j ht hj => h.zero t j (by omega) hj, h.apart, fun c' hc => absurd hc (by omega)⟩
theorem RegTry.up {ls : List Lf} {od : List Nat} {k i c : Nat} {outs : List Int} (h : RegTry ls od k i c outs) (ho : OrdL ls od) (hi : od[k]? = some i) (hb : heldB ls od k outs i c = true) : RegTry ls od k i (c + 1) (outs.set i ((c : Int) + 1)) := by
  have hil : i < outs.length := by rw [h.len]; exact ho.lt i (List.mem_of_getElem? hi)
  have hne : ∀ s j, s ≠ k → od[s]? = some j → i ≠ j := fun s j hs hj e => by subst e; exact hs (ho.inj hj hi)
  refine ⟨by simp [h.len], by rw [ot_set hil, if_pos rfl]; simp, fun t j ht hj => ?_, fun t j ht hj => ?_, fun s t a b hs ht ha hb' => ?_, held_up ho hi h.len h.held h.at_ hb⟩
  · rw [ot_set hil, if_neg (hne t j (by omega) hj)]; exact h.lo t j ht hj
  · rw [ot_set hil, if_neg (hne t j (by omega) hj)]; exact h.zero t j ht hj
  · rw [ot_set hil, if_neg (hne s a (by omega) ha), ot_set hil, if_neg (hne t b (by omega) hb')]; exact h.apart s t a b hs ht ha hb'
theorem RegTry.done {ls : List Lf} {od : List Nat} {k i c : Nat} {outs : List Int} (h : RegTry ls od k i c outs) (hr : RightL ls) (ho : OrdL ls od) (hi : od[k]? = some i) (hb : heldB ls od k outs i c = false) : RegInv ls od (k + 1) outs := by
  have hc := held_lt hr ho hi h.held
  refine ⟨h.len, fun t j ht hj => ?_, fun t j ht hj => h.zero t j (by omega) hj, fun s t a b hs ht ha hb' => ?_⟩
  · rcases Nat.lt_or_ge t k with h1 | h1
    · exact h.lo t j h1 hj
    · have : t = k := by omega
      subst this
      rw [hi] at hj; cases hj
      rw [h.at_]; omega
  · rcases Nat.lt_or_ge t k with h1 | h1
    · exact h.apart s t a b hs h1 ha hb'
    · have : t = k := by omega
      subst this
      rw [hi] at hb'; cases hb'
      intro ⟨e1, e2⟩
      have : heldB ls od t outs i c = true := heldB_iff.2 ⟨s, a, hs, ha, by rw [e1, h.at_], e2⟩
      rw [this] at hb; cases hb
theorem RegInv.zero_ {ls : List Lf} {od : List Nat} (ho : OrdL ls od) : RegInv ls od 0 (List.replicate ls.length 0) :=
  ⟨by simp, fun t j ht => absurd ht (by omega), fun t j _ hj => by
    have := ho.lt j (List.mem_of_getElem? hj)
    simp [ot, this], fun s t _ _ _ ht => absurd ht (by omega)⟩

/-- What is right of registers. -/
def GoodR (ls : List Lf) (outs : List Int) : Prop := outs.length = ls.length ∧ (∀ i, i < ls.length → 0 ≤ ot outs i ∧ ot outs i < crowdS ls) ∧
  ∀ i k, k < i → i < ls.length → ¬ (ot outs i = ot outs k ∧ (lf ls i).fr ≤ (lf ls k).tt ∧ (lf ls k).fr ≤ (lf ls i).tt)
theorem RegInv.good {ls : List Lf} {od : List Nat} {outs : List Int} (h : RegInv ls od ls.length outs) (ho : OrdL ls od) : GoodR ls outs := by
  refine ⟨h.len, fun i hi => ?_, fun i k hk hi => ?_⟩
  · obtain ⟨t, ht, htj⟩ := ho.all i hi
    exact h.lo t i ht htj
  · obtain ⟨s, hs, hsj⟩ := ho.all i hi
    obtain ⟨t, ht, htj⟩ := ho.all k (by omega)
    rintro ⟨e1, e2, e3⟩
    rcases Nat.lt_or_ge s t with h1 | h1
    · exact h.apart s t i k h1 ht hsj htj ⟨e1, e3⟩
    · rcases Nat.lt_or_ge t s with h2 | h2
      · exact h.apart t s k i h2 hs htj hsj ⟨e1.symm, e2⟩
      · have : s = t := by omega
        subst this
        rw [hsj] at htj; cases htj; omega
/-- With fewer registers than lives meet there is no such thing. -/
theorem good_full {ls : List Lf} {outs : List Int} (h : GoodR ls outs) (count : Nat) (hc : ∀ i, i < ls.length → ot outs i < count) : crowdS ls ≤ count := by
  refine crowdK_le ls count _ (fun a ha => ?_)
  unfold liveN
  have hn : ((List.range ls.length).filter (liveB ls (lf ls a).fr)).Nodup := List.nodup_range.filter _
  have hm := nodup_map (fun j => (ot outs j).toNat) _ hn (fun x y hx hy he => by
    obtain ⟨hx1, hx2⟩ := List.mem_filter.1 hx
    obtain ⟨hy1, hy2⟩ := List.mem_filter.1 hy
    simp only [List.mem_range] at hx1 hy1
    simp only [liveB, Bool.and_eq_true, decide_eq_true_eq] at hx2 hy2
    have a1 := (h.2.1 x hx1).1
    have a2 := (h.2.1 y hy1).1
    have e : ot outs x = ot outs y := by omega
    rcases Nat.lt_or_ge x y with h1 | h1
    · exact absurd ⟨e.symm, by omega, by omega⟩ (h.2.2 y x h1 hy1)
    · rcases Nat.lt_or_ge y x with h2 | h2
      · exact absurd ⟨e, by omega, by omega⟩ (h.2.2 x y h2 hx1)
      · omega)
  have := nodup_le _ (List.range count) hm (fun c hc' => by
    obtain ⟨j, hj, rfl⟩ := List.mem_map.1 hc'
    obtain ⟨h1, _⟩ := List.mem_filter.1 hj
    simp only [List.mem_range] at h1 ⊢
    have := hc j h1
    have := (h.2.1 j h1).1
    omega)
  simpa using this
end Go.Proofs.Ytedabpldigcffaa
