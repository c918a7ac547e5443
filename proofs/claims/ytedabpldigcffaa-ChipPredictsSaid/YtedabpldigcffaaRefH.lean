/- The checker and the specification say the same of an instruction. -/
import Derived.Test.YtedabpldigcffaaInsF
import Derived.Test.YtedabpldigcffaaCheckF
namespace Go.Proofs.Ytedabpldigcffaa
open Go.RowKit
set_option linter.unusedSimpArgs false
set_option linter.unusedVariables false

theorem formS_op {x : Ins} {f : Frm} (h : formS x = some f) : inR x.op 1 19 = true := by
  rw [inR_iff]
  by_cases hc : 1 ≤ x.op ∧ x.op ≤ 19
  · exact hc
  · have h2 : formS x = none := by
      unfold formS
      iterate 19 rw [if_neg (by omega)]
    rw [h2] at h
    cases h
theorem formS_none {x : Ins} (h : formS x = none) : inR x.op 1 19 = false := by
  rw [← Bool.not_eq_true, inR_iff]
  intro hc
  unfold formS at h
  have h1 : x.op = 1 ∨ x.op = 2 ∨ x.op = 3 ∨ x.op = 4 ∨ x.op = 5 ∨ x.op = 6 ∨ x.op = 7 ∨ x.op = 8 ∨ x.op = 9 ∨ x.op = 10 ∨ x.op = 11 ∨ x.op = 12 ∨ x.op = 13 ∨ x.op = 14 ∨ x.op = 15 ∨ x.op = 16 ∨ x.op = 17 ∨ x.op = 18 ∨ x.op = 19 := by omega
  rcases h1 with h1 | h1 | h1 | h1 | h1 | h1 | h1 | h1 | h1 | h1 | h1 | h1 | h1 | h1 | h1 | h1 | h1 | h1 | h1 <;> simp [h1] at h
/-- The cases of an operation. -/
theorem k_cases (k : Int) : k = 15 ∨ k = 12 ∨ k = 13 ∨ k = 14 ∨ k = 11 ∨ (inR k 4 10 = true ∧ k ≠ 15 ∧ k ≠ 12 ∧ k ≠ 13 ∧ k ≠ 14 ∧ k ≠ 11 ∧ inR k 4 15 = true ∧ argsN k = 2) ∨
    (inR k 4 10 = false ∧ k ≠ 15 ∧ k ≠ 12 ∧ k ≠ 13 ∧ k ≠ 14 ∧ k ≠ 11 ∧ inR k 4 15 = false ∧ argsN k = 0) := by
  by_cases h15 : k = 15
  · exact .inl h15
  by_cases h12 : k = 12
  · exact .inr (.inl h12)
  by_cases h13 : k = 13
  · exact .inr (.inr (.inl h13))
  by_cases h14 : k = 14
  · exact .inr (.inr (.inr (.inl h14)))
  by_cases h11 : k = 11
  · exact .inr (.inr (.inr (.inr (.inl h11))))
  refine .inr (.inr (.inr (.inr (.inr ?_))))
  cases h : inR k 4 10
  · refine .inr ⟨rfl, h15, h12, h13, h14, h11, ?_, ?_⟩
    · rw [← Bool.not_eq_true, inR_iff] at h ⊢
      omega
    · unfold argsN
      rw [if_neg h15, if_neg (by rw [h]; decide), if_neg]
      rw [← Bool.not_eq_true, inR_iff] at h
      rw [inR_iff]
      omega
  · refine .inl ⟨rfl, h15, h12, h13, h14, h11, ?_, ?_⟩
    · rw [inR_iff] at h ⊢
      omega
    · unfold argsN
      rw [if_neg h15, if_pos h]

theorem unused_eq (m : Mc) (x : Ins) (f : Frm) (h : formS x = some f) : unusedS f x = (!(names.all (nameOk (fieldsS m x) x)) || kpBad x) := by
  have ho := formS_op h
  obtain ⟨o, k, d, a, b, c, p, n, mm⟩ := x
  rw [inR_iff] at ho
  simp only at ho
  have h1 : o = 1 ∨ o = 3 ∨ o = 4 ∨ o = 5 ∨ o = 6 ∨ o = 7 ∨ o = 8 ∨ o = 9 ∨ o = 10 ∨ o = 12 ∨ o = 13 ∨ o = 14 ∨ o = 15 ∨ o = 16 ∨ o = 17 ∨ o = 18 ∨ o = 19 ∨ o = 2 ∨ o = 11 := by omega
  rcases h1 with rfl | rfl | rfl | rfl | rfl | rfl | rfl | rfl | rfl | rfl | rfl | rfl | rfl | rfl | rfl | rfl | rfl | h1
  iterate 17
    · simp [formS] at h
      subst h
      rw [Bool.eq_iff_iff]
      simp [unusedS, unusedK, Frm.fs, Ins.xs, names, nameOk, hasF, fieldsS, kpBad, condB, countedB, Ins.get, fldR, fldV]
      try omega
  · rcases k_cases k with rfl | rfl | rfl | rfl | rfl | ⟨h2, h3, h4, h5, h6, h7, h8, h9⟩ | ⟨h2, h3, h4, h5, h6, h7, h8, h9⟩
    iterate 5
      · rcases h1 with rfl | rfl
        · simp [formS, opForm, argsN, inR, nz] at h
          subst h
          rw [Bool.eq_iff_iff]
          simp [unusedS, unusedK, Frm.fs, Ins.xs, names, nameOk, hasF, fieldsS, opFields, inR, kpBad, condB, countedB, Ins.get, fldR, fldV, fldN]
          try omega
        · simp [formS, opForm, argsN, inR, nz] at h
          subst h
          rw [Bool.eq_iff_iff]
          simp [unusedS, unusedK, Frm.fs, Ins.xs, names, nameOk, hasF, fieldsS, opFields, inR, kpBad, condB, countedB, Ins.get, fldR, fldV, fldN]
          try omega
    iterate 2
      · have b3 : (k == 12) = false := by simpa using h4
        have b4 : (k == 13) = false := by simpa using h5
        have b5 : (k == 14) = false := by simpa using h6
        rcases h1 with rfl | rfl
        · simp [formS, opForm, h9, b3, b4, b5, nz] at h
          subst h
          rw [Bool.eq_iff_iff]
          simp [unusedS, unusedK, Frm.fs, Ins.xs, names, nameOk, hasF, fieldsS, opFields, h2, h3, h4, h5, h6, kpBad, condB, countedB, Ins.get, fldR, fldV, fldN]
          try omega
        · simp [formS, opForm, h9, b3, b4, b5, nz] at h
          subst h
          rw [Bool.eq_iff_iff]
          simp [unusedS, unusedK, Frm.fs, Ins.xs, names, nameOk, hasF, fieldsS, opFields, h2, h3, h4, h5, h6, kpBad, condB, countedB, Ins.get, fldR, fldV, fldN]
          try omega

theorem ranged_eq (m : Mc) (x : Ins) (f : Frm) (hm : m.okB = true) (h : formS x = some f) :
    rangedS m f x = ((fieldsS m x).all (fun g => inR (x.get g.name) g.low g.high) && !lastBad x) := by
  have ho := formS_op h
  have hbk : 256 ≤ m.bank ∧ m.bank ≤ 4096 ∧ 2 ≤ m.lanes ∧ m.lanes ≤ 8 := by
    unfold Mc.okB at hm
    simp only [Bool.and_eq_true, inR_iff] at hm
    omega
  obtain ⟨m0, m1, m2, m3, m4⟩ := m
  obtain ⟨o, k, d, a, b, c, p, n, mm⟩ := x
  rw [inR_iff] at ho
  simp only at ho hbk
  clear hm
  have h1 : o = 1 ∨ o = 3 ∨ o = 4 ∨ o = 5 ∨ o = 6 ∨ o = 7 ∨ o = 8 ∨ o = 9 ∨ o = 10 ∨ o = 12 ∨ o = 13 ∨ o = 14 ∨ o = 15 ∨ o = 16 ∨ o = 17 ∨ o = 18 ∨ o = 19 ∨ o = 2 ∨ o = 11 := by omega
  rcases h1 with rfl | rfl | rfl | rfl | rfl | rfl | rfl | rfl | rfl | rfl | rfl | rfl | rfl | rfl | rfl | rfl | rfl | h1
  iterate 17
    · simp [formS] at h
      subst h
      rw [Bool.eq_iff_iff]
      simp [rangedS, rangedK, rangedX, Frm.fs, Ins.xs, fieldOk, fieldsS, lastBad, countedB, Ins.get, fldR, fldV, inR]
      try omega
  · rcases k_cases k with rfl | rfl | rfl | rfl | rfl | ⟨h2, h3, h4, h5, h6, h7, h8, h9⟩ | ⟨h2, h3, h4, h5, h6, h7, h8, h9⟩
    iterate 5
      · rcases h1 with rfl | rfl
        · simp [formS, opForm, argsN, inR, nz] at h
          subst h
          rw [Bool.eq_iff_iff]
          simp [rangedS, rangedK, rangedX, rangedOp, argsN, Frm.fs, Ins.xs, fieldOk, fieldsS, opFields, lastBad, countedB, Ins.get, fldR, fldV, fldN, inR]
          try omega
        · simp [formS, opForm, argsN, inR, nz] at h
          subst h
          rw [Bool.eq_iff_iff]
          simp [rangedS, rangedK, rangedX, rangedOp, argsN, Frm.fs, Ins.xs, fieldOk, fieldsS, opFields, lastBad, countedB, Ins.get, fldR, fldV, fldN, inR]
          try omega
    iterate 2
      · have b3 : (k == 12) = false := by simpa using h4
        have b4 : (k == 13) = false := by simpa using h5
        have b5 : (k == 14) = false := by simpa using h6
        rcases h1 with rfl | rfl
        · simp [formS, opForm, h9, b3, b4, b5, nz] at h
          subst h
          rw [Bool.eq_iff_iff]
          simp [rangedS, rangedK, rangedX, rangedOp, h9, Frm.fs, Ins.xs, fieldOk, fieldsS, opFields, h2, h3, h4, h5, h6, h8, lastBad, countedB, Ins.get, fldR, fldV, fldN, inR_iff]
          try omega
        · simp [formS, opForm, h9, b3, b4, b5, nz] at h
          subst h
          rw [Bool.eq_iff_iff]
          simp [rangedS, rangedK, rangedX, rangedOp, h9, Frm.fs, Ins.xs, fieldOk, fieldsS, opFields, h2, h3, h4, h5, h6, h8, lastBad, countedB, Ins.get, fldR, fldV, fldN, inR_iff]
          try omega

/-- What the checker says of one instruction, by what the specification says of it. -/
theorem insE_F {m : Mc} {D : Nat} {x : Ins} (hm : m.okB = true) :
    insE m D x = if instrF m x = 0 then (if x.op = 4 ∧ D = 0 then 7 else if x.op = 3 ∧ 16 ≤ D then 2 else 0) else instrF m x := by
  unfold insE
  cases hf : formS x with
  | none =>
    have h4 : instrF m x = 4 := by unfold instrF; rw [if_pos (formS_none hf)]
    rw [h4]
    rfl
  | some f =>
    simp only
    rw [unused_eq m x f hf, ranged_eq m x f hm hf]
    have ho := formS_op hf
    have hI : instrF m x = if names.all (nameOk (fieldsS m x) x) = false then 3 else if kpBad x then 3 else if (fieldsS m x).all (fun f => inR (x.get f.name) f.low f.high) = false then 9 else if lastBad x then 9 else 0 := by
      unfold instrF; rw [if_neg (by rw [ho]; decide)]
    rw [hI]
    cases names.all (nameOk (fieldsS m x) x) <;> cases kpBad x <;> cases (fieldsS m x).all (fun f => inR (x.get f.name) f.low f.high) <;> cases lastBad x <;> simp
end Go.Proofs.Ytedabpldigcffaa
namespace Go.Proofs.Ytedabpldigcffaa
open Go.RowKit
set_option linter.unusedSimpArgs false
set_option linter.unusedVariables false

/-- How many instructions are executed from a place to the end of its loop, and where that is. -/
def cnt (xs : List Ins) : Nat → Nat → Int × Nat
  | 0, q => (0, q)
  | f + 1, q => match xs[q]? with
    | none => (0, q)
    | some x =>
      if x.op = 4 then (0, q)
      else if x.op = 3 then
        (1 + x.m * ((cnt xs f (q + 1)).1 + 1) + (cnt xs f ((cnt xs f (q + 1)).2 + 1)).1, (cnt xs f ((cnt xs f (q + 1)).2 + 1)).2)
      else (1 + (cnt xs f (q + 1)).1, (cnt xs f (q + 1)).2)
def sat (a : Int) : Int := min a 40000001
def sumS : List Int → List Ins → Int
  | _, [] => 0
  | st, x :: xs => st.headD 0 + sumS (stStep st x) xs

theorem turns_sumS (xs : List Ins) : ∀ st : List Int, ((List.range xs.length).map fun j => ((xs.take j).foldl stStep st).headD 0).sum = sumS st xs := by
  induction xs with
  | nil => intro st; rfl
  | cons x xs ih =>
    intro st
    rw [List.length_cons, List.range_succ_eq_map, List.map_cons, List.sum_cons, List.map_map]
    simp only [sumS, List.take_zero, List.foldl_nil]
    rw [← ih (stStep st x)]
    rfl

theorem sat_step {t M n1 n2 q1 q2 : Int} (ht : 0 ≤ t) (hM : 0 ≤ M) (hn1 : 0 ≤ n1) (hn2 : 0 ≤ n2) (hq1 : 0 ≤ q1) (hq2 : 0 ≤ q2)
    (h1 : sat q1 = sat (sat (t * M) * n1)) (h2 : sat q2 = sat (t * n2)) : sat (t + q1 + sat (t * M) + q2) = sat (t * (1 + M * (n1 + 1) + n2)) := by
  have e : t * (1 + M * (n1 + 1) + n2) = t + (t * M * n1 + t * M) + t * n2 := by
    rw [Int.mul_add, Int.mul_add, Int.mul_one, Int.mul_add M, Int.mul_one, Int.mul_add, Int.mul_assoc]
  rw [e]
  have hA := Int.mul_nonneg ht hM
  have hB := Int.mul_nonneg hA hn1
  have hC := Int.mul_nonneg ht hn2
  generalize t * n2 = C at *
  generalize t * M = A at *
  by_cases hc : A ≤ 40000001
  · have hs : sat A = A := by unfold sat; omega
    rw [hs] at h1 ⊢
    generalize A * n1 = B at *
    unfold sat at *
    omega
  · have hs : sat A = 40000001 := by unfold sat; omega
    rw [hs]
    generalize A * n1 = B at *
    unfold sat at *
    omega

theorem cnt_sum {m : Mc} {xs : List Ins} (hm : loopsOk xs) : ∀ (f p : Nat) (t : Int) (st : List Int) (D : Nat), xs.length ≤ p + f → 0 ≤ t → t ≤ 40000001 → codeE m D (xs.drop p) = 0 →
    0 ≤ (cnt xs f p).1 ∧ p ≤ (cnt xs f p).2 ∧ codeE m D (xs.drop (cnt xs f p).2) = 0 ∧ (∀ y, xs[(cnt xs f p).2]? = some y → y.op = 4) ∧
      ∃ q, 0 ≤ q ∧ sumS (t :: st) (xs.drop p) = q + sumS (t :: st) (xs.drop (cnt xs f p).2) ∧ sat q = sat (t * (cnt xs f p).1) := by
  intro f
  induction f with
  | zero =>
    intro p t st D hl h0 h1 hc
    refine ⟨Int.le_refl _, Nat.le_refl _, hc, fun y hy => ?_, 0, Int.le_refl _, by simp [cnt], by simp [cnt]⟩
    have := (List.getElem?_eq_some_iff.1 hy).1
    simp only [cnt] at this
    omega
  | succ f ih =>
    intro p t st D hl h0 h1 hc
    cases hx : xs[p]? with
    | none =>
      have e : cnt xs (f + 1) p = (0, p) := by simp only [cnt, hx]
      rw [e]
      exact ⟨Int.le_refl _, Nat.le_refl _, hc, fun y hy => (by rw [hx] at hy; cases hy), 0, Int.le_refl _, by simp, by simp⟩
    | some x =>
      obtain ⟨hp, ex⟩ := List.getElem?_eq_some_iff.1 hx
      have hd : xs.drop p = x :: xs.drop (p + 1) := by rw [List.drop_eq_getElem_cons hp, ex]
      by_cases h4 : x.op = 4
      · have e : cnt xs (f + 1) p = (0, p) := by simp only [cnt, hx, if_pos h4]
        rw [e]
        exact ⟨Int.le_refl _, Nat.le_refl _, hc, fun y hy => (by rw [hx] at hy; cases hy; exact h4), 0, Int.le_refl _, by simp, by simp⟩
      rw [hd] at hc ⊢
      simp only [codeE] at hc
      have hi : insE m D x = 0 := by
        by_cases hi : insE m D x = 0
        · exact hi
        · rw [if_neg hi] at hc; exact absurd hc hi
      rw [if_pos hi] at hc
      by_cases h3 : x.op = 3
      · have hxm : 0 ≤ x.m ∧ x.m ≤ 1000000 := hm x (List.mem_of_getElem? hx) h3
        have hA := Int.mul_nonneg h0 hxm.1
        have hD : dStep D x = D + 1 := by simp [dStep, h3]
        rw [hD] at hc
        obtain ⟨a1, a2, a3, a4, q1, b1, b2, b3⟩ := ih (p + 1) (sat (t * x.m)) (t :: st) (D + 1) (by omega) (by unfold sat; omega) (by unfold sat; omega) hc
        generalize hr : cnt xs f (p + 1) = r at a1 a2 a3 a4 b2 b3
        obtain ⟨n1, e1⟩ := r
        simp only at a1 a2 a3 a4 b2 b3
        cases hy : xs[e1]? with
        | none =>
          have : xs.drop e1 = [] := List.drop_eq_nil_of_le (List.getElem?_eq_none_iff.1 hy)
          rw [this] at a3
          simp [codeE] at a3
        | some y =>
          obtain ⟨hp1, ey⟩ := List.getElem?_eq_some_iff.1 hy
          have hd1 : xs.drop e1 = y :: xs.drop (e1 + 1) := by rw [List.drop_eq_getElem_cons hp1, ey]
          have hy4 := a4 y hy
          rw [hd1] at a3 b2
          simp only [codeE] at a3
          have hiy : insE m (D + 1) y = 0 := by
            by_cases hi : insE m (D + 1) y = 0
            · exact hi
            · rw [if_neg hi] at a3; exact absurd a3 hi
          rw [if_pos hiy, show dStep (D + 1) y = D by simp [dStep, hy4]] at a3
          obtain ⟨c1, c2, c3, c4, q2, d1, d2, d3⟩ := ih (e1 + 1) t st D (by omega) h0 h1 a3
          have e : cnt xs (f + 1) p = (1 + x.m * (n1 + 1) + (cnt xs f (e1 + 1)).1, (cnt xs f (e1 + 1)).2) := by
            simp only [cnt, hx, if_neg h4, if_pos h3, hr]
          rw [e]
          generalize cnt xs f (e1 + 1) = r2 at *
          obtain ⟨n2, e2⟩ := r2
          simp only at c1 c2 c3 c4 d2 d3 ⊢
          have hB := Int.mul_nonneg hxm.1 (show (0 : Int) ≤ n1 + 1 by omega)
          refine ⟨by omega, by omega, c3, c4, t + q1 + sat (t * x.m) + q2, by unfold sat; omega, ?_, sat_step h0 hxm.1 a1 c1 b1 d1 b3 d3⟩
          have hs1 : stStep (t :: st) x = sat (t * x.m) :: t :: st := by simp [stStep, h3, sat]
          have hs2 : stStep (sat (t * x.m) :: t :: st) y = t :: st := by simp [stStep, hy4]
          simp only [sumS, hs1, hs2, List.headD_cons] at b2 ⊢
          rw [b2, d2]
          omega
      · have hD : dStep D x = D := by simp [dStep, h3, h4]
        rw [hD] at hc
        obtain ⟨a1, a2, a3, a4, q1, b1, b2, b3⟩ := ih (p + 1) t st D (by omega) h0 h1 hc
        have e : cnt xs (f + 1) p = (1 + (cnt xs f (p + 1)).1, (cnt xs f (p + 1)).2) := by
          simp only [cnt, hx, if_neg h4, if_neg h3]
        rw [e]
        generalize cnt xs f (p + 1) = r at *
        obtain ⟨n1, e1⟩ := r
        simp only at a1 a2 a3 a4 b2 b3 ⊢
        refine ⟨by omega, by omega, a3, a4, t + q1, by omega, ?_, ?_⟩
        · have hs : stStep (t :: st) x = t :: st := by simp [stStep, h3, h4]
          simp only [sumS, hs, List.headD_cons]
          rw [b2]
          omega
        · rw [Int.mul_add, Int.mul_one]
          have := Int.mul_nonneg h0 a1
          unfold sat at *
          omega

theorem total_iff {m : Mc} {xs : List Ins} (h : codeE m 0 xs = 0) : (40000000 < (turnsS xs).sum) ↔ 40000000 < sat (cnt xs xs.length 0).1 := by
  obtain ⟨a1, _, a3, a4, q, b1, b2, b3⟩ := cnt_sum (codeE_loops h) xs.length 0 1 [] 0 (by omega) (by decide) (by decide) h
  have hT : (turnsS xs).sum = sumS [1] xs := turns_sumS xs [1]
  have he : xs.drop (cnt xs xs.length 0).2 = [] := by
    cases hy : xs[(cnt xs xs.length 0).2]? with
    | none => exact List.drop_eq_nil_of_le (List.getElem?_eq_none_iff.1 hy)
    | some y =>
      exfalso
      obtain ⟨hp, ey⟩ := List.getElem?_eq_some_iff.1 hy
      rw [List.drop_eq_getElem_cons hp, ey] at a3
      simp only [codeE] at a3
      have hi : insE m 0 y = 0 := by
        by_cases hi : insE m 0 y = 0
        · exact hi
        · rw [if_neg hi] at a3; exact absurd a3 hi
      have := insE_op4 hi (a4 y hy)
      omega
  rw [he] at b2
  simp only [sumS, List.drop_zero] at b2
  rw [hT, b2]
  rw [Int.one_mul] at b3
  unfold sat at *
  omega
theorem cnt_nonneg {xs : List Ins} (hm : loopsOk xs) : ∀ f p, 0 ≤ (cnt xs f p).1 ∧ p ≤ (cnt xs f p).2 := by
  intro f
  induction f with
  | zero => intro p; simp [cnt]
  | succ f ih =>
    intro p
    cases hx : xs[p]? with
    | none => simp only [cnt, hx]; omega
    | some x =>
      by_cases h4 : x.op = 4
      · simp only [cnt, hx, if_pos h4]; omega
      by_cases h3 : x.op = 3
      · simp only [cnt, hx, if_neg h4, if_pos h3]
        have h1 := ih (p + 1)
        have h2 := ih ((cnt xs f (p + 1)).2 + 1)
        have := Int.mul_nonneg (hm x (List.mem_of_getElem? hx) h3).1 (show (0 : Int) ≤ (cnt xs f (p + 1)).1 + 1 by omega)
        omega
      · simp only [cnt, hx, if_neg h4, if_neg h3]
        have h1 := ih (p + 1)
        omega
end Go.Proofs.Ytedabpldigcffaa
namespace Go.Proofs.Ytedabpldigcffaa
open Go.RowKit
set_option linter.unusedSimpArgs false
set_option linter.unusedVariables false

theorem cnt_past {xs : List Ins} {p : Nat} (h : xs.length ≤ p) (f : Nat) : cnt xs f p = (0, p) := by
  cases f with
  | zero => rfl
  | succ f => simp only [cnt, List.getElem?_eq_none_iff.2 h]
theorem cnt_end {xs : List Ins} {p : Nat} {x : Ins} (hx : xs[p]? = some x) (h4 : x.op = 4) (f : Nat) : cnt xs f p = (0, p) := by
  cases f with
  | zero => rfl
  | succ f => simp only [cnt, hx, if_pos h4]
theorem cnt_loop {xs : List Ins} {p : Nat} {x : Ins} (hx : xs[p]? = some x) (h3 : x.op = 3) (f : Nat) :
    cnt xs (f + 1) p = (1 + x.m * ((cnt xs f (p + 1)).1 + 1) + (cnt xs f ((cnt xs f (p + 1)).2 + 1)).1, (cnt xs f ((cnt xs f (p + 1)).2 + 1)).2) := by
  simp only [cnt, hx, if_pos h3, if_neg (show ¬ x.op = 4 by omega)]
theorem cnt_plain {xs : List Ins} {p : Nat} {x : Ins} (hx : xs[p]? = some x) (h3 : x.op ≠ 3) (h4 : x.op ≠ 4) (f : Nat) :
    cnt xs (f + 1) p = (1 + (cnt xs f (p + 1)).1, (cnt xs f (p + 1)).2) := by
  simp only [cnt, hx, if_neg h3, if_neg h4]
theorem cnt_bound (xs : List Ins) : ∀ f p, (cnt xs f p).2 ≤ max p xs.length + f := by
  intro f
  induction f with
  | zero => intro p; simp only [cnt]; omega
  | succ f ih =>
    intro p
    cases hx : xs[p]? with
    | none => simp only [cnt, hx]; omega
    | some x =>
      have hp := (List.getElem?_eq_some_iff.1 hx).1
      by_cases h4 : x.op = 4
      · rw [cnt_end hx h4]; simp only; omega
      by_cases h3 : x.op = 3
      · rw [cnt_loop hx h3]
        have h1 := ih (p + 1)
        by_cases he : xs.length ≤ (cnt xs f (p + 1)).2
        · rw [cnt_past (p := (cnt xs f (p + 1)).2 + 1) (by omega)]
          simp only
          omega
        · have h2 := ih ((cnt xs f (p + 1)).2 + 1)
          simp only
          omega
      · rw [cnt_plain hx h3 h4]
        have h1 := ih (p + 1)
        simp only
        omega

/-- Where the count stands: n so far, at place q, with room f. -/
structure CntSt (xs : List Ins) (N : Int) (E : Nat) (f q : Nat) (n : Int) : Prop where
  low : 0 ≤ n
  high : n ≤ 40000001
  fuel : xs.length ≤ q + f
  sum : sat (n + (cnt xs f q).1) = N
  end' : (cnt xs f q).2 = E
theorem CntSt.start {xs : List Ins} {f p : Nat} (h : xs.length ≤ p + f) : CntSt xs (sat (cnt xs f p).1) (cnt xs f p).2 f p 0 := ⟨by omega, by omega, h, by rw [Int.zero_add], rfl⟩
theorem CntSt.stop {xs : List Ins} {N : Int} {E f q : Nat} {n : Int} (h : CntSt xs N E f q n) (hc : cnt xs f q = (0, q)) : n = N ∧ q = E := by
  have h1 := h.sum
  have h2 := h.end'
  have h3 := h.low
  have h4 := h.high
  rw [hc] at h1 h2
  unfold sat at h1
  exact ⟨by simp only at h1; omega, h2⟩
theorem CntSt.plain {xs : List Ins} {N : Int} {E f q : Nat} {n : Int} {x : Ins} (hm : loopsOk xs) (h : CntSt xs N E (f + 1) q n) (hx : xs[q]? = some x) (h3 : x.op ≠ 3) (h4 : x.op ≠ 4) :
    CntSt xs N E f (q + 1) (min (n + 1) 40000001) := by
  have h1 := h.sum
  have h2 := h.end'
  have h5 := h.low
  have h6 := h.high
  have h7 := h.fuel
  have h8 := (cnt_nonneg hm f (q + 1)).1
  rw [cnt_plain hx h3 h4] at h1 h2
  simp only at h1 h2
  exact ⟨by omega, by omega, by omega, by unfold sat at *; omega, h2⟩
theorem CntSt.loop {xs : List Ins} {N : Int} {E f q : Nat} {n : Int} {x : Ins} (hm : loopsOk xs) (h : CntSt xs N E (f + 1) q n) (hx : xs[q]? = some x) (h3 : x.op = 3) :
    CntSt xs N E f ((cnt xs f (q + 1)).2 + 1) (min (n + 1 + x.m * (sat (cnt xs f (q + 1)).1 + 1)) 40000001) := by
  have h1 := h.sum
  have h2 := h.end'
  have h5 := h.low
  have h6 := h.high
  have h7 := h.fuel
  have hM := hm x (List.mem_of_getElem? hx) h3
  obtain ⟨h8, h9⟩ := cnt_nonneg hm f (q + 1)
  have h10 := (cnt_nonneg hm f ((cnt xs f (q + 1)).2 + 1)).1
  rw [cnt_loop hx h3] at h1 h2
  simp only at h1 h2
  have hlow : 0 ≤ x.m * (sat (cnt xs f (q + 1)).1 + 1) := Int.mul_nonneg hM.1 (by unfold sat; omega)
  refine ⟨by omega, by omega, by omega, ?_, h2⟩
  rw [← h1]
  generalize (cnt xs f ((cnt xs f (q + 1)).2 + 1)).1 = c2 at *
  generalize (cnt xs f (q + 1)).1 = c1 at *
  by_cases hc : c1 ≤ 40000001
  · have : sat c1 = c1 := by unfold sat; omega
    rw [this] at hlow ⊢
    generalize x.m * (c1 + 1) = z at *
    unfold sat
    omega
  · have : sat c1 = 40000001 := by unfold sat; omega
    rw [this] at hlow ⊢
    by_cases h0 : x.m = 0
    · rw [h0, Int.zero_mul, Int.zero_mul]
      unfold sat
      omega
    · have e1 : (40000001 : Int) + 1 ≤ x.m * (40000001 + 1) := by omega
      have e2 : x.m * (40000001 + 1) ≤ x.m * (c1 + 1) := Int.mul_le_mul_of_nonneg_left (by omega) hM.1
      generalize x.m * (c1 + 1) = z at *
      unfold sat
      omega
theorem CntSt.place {xs : List Ins} {N : Int} {E f q : Nat} {n : Int} (hm : loopsOk xs) (h : CntSt xs N E f q n) : q ≤ E := by
  rw [← h.end']
  exact (cnt_nonneg hm f q).2

set_option maxHeartbeats 2000000 in
set_option maxRecDepth 100000 in
theorem executed_any (A : Option Addr) (cap : Nat) (xs : List Ins) (hl : xs.length ≤ 100000) (hm : loopsOk xs) :
    ∀ F f p (w : World), f ≤ F → F ≤ 100000 → xs.length ≤ p + f → p ≤ 100001 → RdC w A xs →
      Calls Try.prog 80 #[.slice A xs.length cap, .int .i64 p] w fun e w' => e = .returned (.tuple #[.int .i64 (sat (cnt xs f p).1), .int .i64 (cnt xs f p).2]) ∧ Ext [] w w' := by
  intro F
  induction F with
  | zero =>
    intro f p w hf hF hp hp2 hR
    have hf0 : f = 0 := by omega
    subst hf0
    have hpl : xs.length ≤ p := by omega
    simp only [cnt]
    clear hR hm
    go_enter Try.func80, Try.ntmps80
    go_wp2_with fail
    go_loopw [1, 6] (fun a n wr => a = .int .i64 p ∧ n = .int .i64 0 ∧ wr = w) (fun _ _ _ => 0)
    case atStart => exact ⟨rfl, rfl, rfl⟩
    case round =>
      obtain ⟨rfl, rfl, rfl⟩ := hrel
      go_wp2_with fail
      go_ret2
      exact ⟨rfl, Ext.refl _ _⟩
  | succ F ih =>
    intro f p w hf hF hp hp2 hR
    have HS := hd (CntSt.start hp)
    have HB := hd (Nat.le_trans (cnt_bound xs f p) (show max p xs.length + f ≤ 200001 by omega))
    have HI := hd ih
    have HM := hd hm
    have HR := hd hR
    clear ih hm hR hp
    generalize sat (cnt xs f p).1 = N at *
    generalize (cnt xs f p).2 = E at *
    go_enter Try.func80, Try.ntmps80
    go_wp2_with fail
    go_loopw [1, 6] (fun a n wr => ∃ (g q : Nat) (v : Int), a = .int .i64 q ∧ n = .int .i64 v ∧ g ≤ F + 1 ∧ Hd (CntSt xs N E g q v) ∧ Ext [] w wr) (fun a _ _ => (xs.length - intOf a).toNat)
    case atStart => exact ⟨f, p, 0, rfl, rfl, hf, HS, Ext.refl _ _⟩
    case round =>
      obtain ⟨g, q, v, rfl, rfl, hg, hC, hE⟩ := hrel
      have hv0 := hC.out.low
      have hv1 := hC.out.high
      have hq := hC.out.place HM.out
      have hb := HB.out
      have hfu := hC.out.fuel
      have HE := hd hE
      by_cases hlt : q < xs.length
      · obtain ⟨x, hx⟩ : ∃ x, xs[q]? = some x := ⟨_, List.getElem?_eq_getElem hlt⟩
        obtain ⟨b, o, rfl, hbl, hcx⟩ := (HR.out.ext hE (by simp)).at hx
        have h0 := hcx 0 _ rfl
        have h8 := hcx 8 _ rfl
        simp only [Nat.add_zero] at h0
        have HX := hd hx
        cases g with
        | zero => omega
        | succ g =>
          clear hcx hx hE
          by_cases h4 : x.op = 4
          · have HZ := hd (hC.out.stop (cnt_end HX.out h4 _))
            rw [h4] at h0
            clear hC h4
            go_wp2_with fail
            go_ret2
            exact ⟨by rw [HZ.out.1, HZ.out.2]; rfl, HE.out⟩
          · have h4b : (x.op == 4) = false := by simpa using h4
            by_cases h3 : x.op = 3
            · have HC2 := hd (hC.out.loop HM.out HX.out h3)
              have hM := HM.out x (List.mem_of_getElem? HX.out) h3
              have hM0 := hM.1
              have hM1 := hM.2
              have HCN := hd (cnt_nonneg HM.out g (q + 1))
              have HCL := hd (show sat (cnt xs g (q + 1)).1 ≤ 40000001 ∧ 0 ≤ sat (cnt xs g (q + 1)).1 by have := HCN.out.1; unfold sat; omega)
              rw [h3] at h0
              clear hC h4 h4b hM
              go_wp2_with fail
              refine (HI.out g (q + 1) _ (by omega) (by omega) (by omega) (by omega) (HR.out.ext HE.out (by simp))).mono ?_
              rintro e w2 ⟨rfl, hE2⟩
              have h8' := hE2.held h8 (by simp)
              have hbl2 : b < w2.heap.size := Nat.lt_of_lt_of_le hbl hE2.size
              have HE2 := hd (HE.out.trans hE2)
              have hpl := (HC2.out.place HM.out)
              have hcn := HCN.out.2
              have hcl := HCL.out
              clear hE2 h8 h0 hbl
              generalize hcs : sat (cnt xs g (q + 1)).1 = c1 at *
              generalize hce : (cnt xs g (q + 1)).2 = e1 at *
              have hz0 : 0 ≤ x.m * (c1 + 1) := Int.mul_nonneg hM0 (by omega)
              have hz1 : x.m * (c1 + 1) ≤ 1000000 * 40000002 := Int.mul_le_mul hM1 (by omega) (by omega) (by omega)
              go_wp2_with fail
              go_round
              case rel => exact ⟨g, e1 + 1, min (v + 1 + x.m * (c1 + 1)) 40000001, by go_num, by go_num, by omega, HC2, HE2.out⟩
              case measure => simp [intOf]; omega
            · have h3b : (x.op == 3) = false := by simpa using h3
              have HC2 := hd (hC.out.plain HM.out HX.out h3 h4)
              clear hC h3 h4
              go_wp2_with fail
              go_round
              case rel => exact ⟨g, q + 1, min (v + 1) 40000001, by go_num, by go_num, by omega, HC2, HE.out⟩
              case measure => simp [intOf]; omega
      · have HZ := hd (hC.out.stop (cnt_past (by omega) _))
        clear hC hE
        go_wp2_with fail
        go_ret2
        exact ⟨by rw [HZ.out.1, HZ.out.2]; rfl, HE.out⟩
end Go.Proofs.Ytedabpldigcffaa
