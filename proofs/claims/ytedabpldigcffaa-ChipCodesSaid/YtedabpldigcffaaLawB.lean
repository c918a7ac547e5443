/- How often instructions are executed: the checker's sum and the specification's count. -/
import Derived.Test.YtedabpldigcffaaLawA
namespace Go.Proofs.Ytedabpldigcffaa
open Go.RowKit
set_option linter.unusedSimpArgs false
set_option linter.unusedVariables false

/-- How many instructions are executed from a place to the end of its loop, and where that is. -/
def cnt (xs : List Ins) : Nat → Nat → Int × Nat
  | 0, q => (0, q)
  | f + 1, q => match xs[q]? with
    | none => (0, q)
    | some x =>
      if x.op = 4 then (0, q)
      else if x.op = 3 then
        (1 + x.m * ((cnt xs f (q + 1)).1 + 1) + (cnt xs f ((cnt xs f (q + 1)).2 + 1)).1, (cnt xs f ((cnt xs f (q + 1)).2 + 1)).2)
      else (1 + (cnt xs f (q + 1)).1, (cnt xs f (q + 1)).2)
def sat (a : Int) : Int := min a 40000001
def sumS : List Int → List Ins → Int
  | _, [] => 0
  | st, x :: xs => st.headD 0 + sumS (stStep st x) xs

theorem turns_sumS (xs : List Ins) : ∀ st : List Int, ((List.range xs.length).map fun j => ((xs.take j).foldl stStep st).headD 0).sum = sumS st xs := by
  induction xs with
  | nil => intro st; rfl
  | cons x xs ih =>
    intro st
    rw [List.length_cons, List.range_succ_eq_map, List.map_cons, List.sum_cons, List.map_map]
    simp only [sumS, List.take_zero, List.foldl_nil]
    rw [← ih (stStep st x)]
    rfl

theorem sat_step {t M n1 n2 q1 q2 : Int} (ht : 0 ≤ t) (hM : 0 ≤ M) (hn1 : 0 ≤ n1) (hn2 : 0 ≤ n2) (hq1 : 0 ≤ q1) (hq2 : 0 ≤ q2)
    (h1 : sat q1 = sat (sat (t * M) * n1)) (h2 : sat q2 = sat (t * n2)) : sat (t + q1 + sat (t * M) + q2) = sat (t * (1 + M * (n1 + 1) + n2)) := by
  have e : t * (1 + M * (n1 + 1) + n2) = t + (t * M * n1 + t * M) + t * n2 := by
    rw [Int.mul_add, Int.mul_add, Int.mul_one, Int.mul_add M, Int.mul_one, Int.mul_add, Int.mul_assoc]
  rw [e]
  have hA := Int.mul_nonneg ht hM
  have hB := Int.mul_nonneg hA hn1
  have hC := Int.mul_nonneg ht hn2
  generalize t * n2 = C at *
  generalize t * M = A at *
  by_cases hc : A ≤ 40000001
  · have hs : sat A = A := by unfold sat; omega
    rw [hs] at h1 ⊢
    generalize A * n1 = B at *
    unfold sat at *
    omega
  · have hs : sat A = 40000001 := by unfold sat; omega
    rw [hs]
    generalize A * n1 = B at *
    unfold sat at *
    omega

theorem cnt_sum {m : Mc} {xs : List Ins} (hm : loopsOk xs) : ∀ (f p : Nat) (t : Int) (st : List Int) (D : Nat), xs.length ≤ p + f → 0 ≤ t → t ≤ 40000001 → codeE m D (xs.drop p) = 0 →
    0 ≤ (cnt xs f p).1 ∧ p ≤ (cnt xs f p).2 ∧ codeE m D (xs.drop (cnt xs f p).2) = 0 ∧ (∀ y, xs[(cnt xs f p).2]? = some y → y.op = 4) ∧
      ∃ q, 0 ≤ q ∧ sumS (t :: st) (xs.drop p) = q + sumS (t :: st) (xs.drop (cnt xs f p).2) ∧ sat q = sat (t * (cnt xs f p).1) := by
  intro f
  induction f with
  | zero =>
    intro p t st D hl h0 h1 hc
    refine ⟨Int.le_refl _, Nat.le_refl _, hc, fun y hy => ?_, 0, Int.le_refl _, by simp [cnt], by simp [cnt]⟩
    have := (List.getElem?_eq_some_iff.1 hy).1
    simp only [cnt] at this
    omega
  | succ f ih =>
    intro p t st D hl h0 h1 hc
    cases hx : xs[p]? with
    | none =>
      have e : cnt xs (f + 1) p = (0, p) := by simp only [cnt, hx]
      rw [e]
      exact ⟨Int.le_refl _, Nat.le_refl _, hc, fun y hy => (by rw [hx] at hy; cases hy), 0, Int.le_refl _, by simp, by simp⟩
    | some x =>
      obtain ⟨hp, ex⟩ := List.getElem?_eq_some_iff.1 hx
      have hd : xs.drop p = x :: xs.drop (p + 1) := by rw [List.drop_eq_getElem_cons hp, ex]
      by_cases h4 : x.op = 4
      · have e : cnt xs (f + 1) p = (0, p) := by simp only [cnt, hx, if_pos h4]
        rw [e]
        exact ⟨Int.le_refl _, Nat.le_refl _, hc, fun y hy => (by rw [hx] at hy; cases hy; exact h4), 0, Int.le_refl _, by simp, by simp⟩
      rw [hd] at hc ⊢
      simp only [codeE] at hc
      have hi : insE m D x = 0 := by
        by_cases hi : insE m D x = 0
        · exact hi
        · rw [if_neg hi] at hc; exact absurd hc hi
      rw [if_pos hi] at hc
      by_cases h3 : x.op = 3
      · have hxm : 0 ≤ x.m ∧ x.m ≤ 1000000 := hm x (List.mem_of_getElem? hx) h3
        have hA := Int.mul_nonneg h0 hxm.1
        have hD : dStep D x = D + 1 := by simp [dStep, h3]
        rw [hD] at hc
        obtain ⟨a1, a2, a3, a4, q1, b1, b2, b3⟩ := ih (p + 1) (sat (t * x.m)) (t :: st) (D + 1) (by omega) (by unfold sat; omega) (by unfold sat; omega) hc
        generalize hr : cnt xs f (p + 1) = r at a1 a2 a3 a4 b2 b3
        obtain ⟨n1, e1⟩ := r
        simp only at a1 a2 a3 a4 b2 b3
        cases hy : xs[e1]? with
        | none =>
          have : xs.drop e1 = [] := List.drop_eq_nil_of_le (List.getElem?_eq_none_iff.1 hy)
          rw [this] at a3
          simp [codeE] at a3
        | some y =>
          obtain ⟨hp1, ey⟩ := List.getElem?_eq_some_iff.1 hy
          have hd1 : xs.drop e1 = y :: xs.drop (e1 + 1) := by rw [List.drop_eq_getElem_cons hp1, ey]
          have hy4 := a4 y hy
          rw [hd1] at a3 b2
          simp only [codeE] at a3
          have hiy : insE m (D + 1) y = 0 := by
            by_cases hi : insE m (D + 1) y = 0
            · exact hi
            · rw [if_neg hi] at a3; exact absurd a3 hi
          rw [if_pos hiy, show dStep (D + 1) y = D by simp [dStep, hy4]] at a3
          obtain ⟨c1, c2, c3, c4, q2, d1, d2, d3⟩ := ih (e1 + 1) t st D (by omega) h0 h1 a3
          have e : cnt xs (f + 1) p = (1 + x.m * (n1 + 1) + (cnt xs f (e1 + 1)).1, (cnt xs f (e1 + 1)).2) := by
            simp only [cnt, hx, if_neg h4, if_pos h3, hr]
          rw [e]
          generalize cnt xs f (e1 + 1) = r2 at *
          obtain ⟨n2, e2⟩ := r2
          simp only at c1 c2 c3 c4 d2 d3 ⊢
          have hB := Int.mul_nonneg hxm.1 (show (0 : Int) ≤ n1 + 1 by omega)
          refine ⟨by omega, by omega, c3, c4, t + q1 + sat (t * x.m) + q2, by unfold sat; omega, ?_, sat_step h0 hxm.1 a1 c1 b1 d1 b3 d3⟩
          have hs1 : stStep (t :: st) x = sat (t * x.m) :: t :: st := by simp [stStep, h3, sat]
          have hs2 : stStep (sat (t * x.m) :: t :: st) y = t :: st := by simp [stStep, hy4]
          simp only [sumS, hs1, hs2, List.headD_cons] at b2 ⊢
          rw [b2, d2]
          omega
      · have hD : dStep D x = D := by simp [dStep, h3, h4]
        rw [hD] at hc
        obtain ⟨a1, a2, a3, a4, q1, b1, b2, b3⟩ := ih (p + 1) t st D (by omega) h0 h1 hc
        have e : cnt xs (f + 1) p = (1 + (cnt xs f (p + 1)).1, (cnt xs f (p + 1)).2) := by
          simp only [cnt, hx, if_neg h4, if_neg h3]
        rw [e]
        generalize cnt xs f (p + 1) = r at *
        obtain ⟨n1, e1⟩ := r
        simp only at a1 a2 a3 a4 b2 b3 ⊢
        refine ⟨by omega, by omega, a3, a4, t + q1, by omega, ?_, ?_⟩
        · have hs : stStep (t :: st) x = t :: st := by simp [stStep, h3, h4]
          simp only [sumS, hs, List.headD_cons]
          rw [b2]
          omega
        · rw [Int.mul_add, Int.mul_one]
          have := Int.mul_nonneg h0 a1
          unfold sat at *
          omega

theorem total_iff {m : Mc} {xs : List Ins} (h : codeE m 0 xs = 0) : (40000000 < (turnsS xs).sum) ↔ 40000000 < sat (cnt xs xs.length 0).1 := by
  obtain ⟨a1, _, a3, a4, q, b1, b2, b3⟩ := cnt_sum (codeE_loops h) xs.length 0 1 [] 0 (by omega) (by decide) (by decide) h
  have hT : (turnsS xs).sum = sumS [1] xs := turns_sumS xs [1]
  have he : xs.drop (cnt xs xs.length 0).2 = [] := by
    cases hy : xs[(cnt xs xs.length 0).2]? with
    | none => exact List.drop_eq_nil_of_le (List.getElem?_eq_none_iff.1 hy)
    | some y =>
      exfalso
      obtain ⟨hp, ey⟩ := List.getElem?_eq_some_iff.1 hy
      rw [List.drop_eq_getElem_cons hp, ey] at a3
      simp only [codeE] at a3
      have hi : insE m 0 y = 0 := by
        by_cases hi : insE m 0 y = 0
        · exact hi
        · rw [if_neg hi] at a3; exact absurd a3 hi
      have := insE_op4 hi (a4 y hy)
      omega
  rw [he] at b2
  simp only [sumS, List.drop_zero] at b2
  rw [hT, b2]
  rw [Int.one_mul] at b3
  unfold sat at *
  omega
theorem cnt_nonneg {xs : List Ins} (hm : loopsOk xs) : ∀ f p, 0 ≤ (cnt xs f p).1 ∧ p ≤ (cnt xs f p).2 := by
  intro f
  induction f with
  | zero => intro p; simp [cnt]
  | succ f ih =>
    intro p
    cases hx : xs[p]? with
    | none => simp only [cnt, hx]; omega
    | some x =>
      by_cases h4 : x.op = 4
      · simp only [cnt, hx, if_pos h4]; omega
      by_cases h3 : x.op = 3
      · simp only [cnt, hx, if_neg h4, if_pos h3]
        have h1 := ih (p + 1)
        have h2 := ih ((cnt xs f (p + 1)).2 + 1)
        have := Int.mul_nonneg (hm x (List.mem_of_getElem? hx) h3).1 (show (0 : Int) ≤ (cnt xs f (p + 1)).1 + 1 by omega)
        omega
      · simp only [cnt, hx, if_neg h4, if_neg h3]
        have h1 := ih (p + 1)
        omega
end Go.Proofs.Ytedabpldigcffaa
