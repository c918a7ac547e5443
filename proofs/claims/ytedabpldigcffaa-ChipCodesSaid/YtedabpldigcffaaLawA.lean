/- The checker and the specification say the same of an instruction. -/
import Derived.Test.YtedabpldigcffaaInsF
import Derived.Test.YtedabpldigcffaaCheckF
namespace Go.Proofs.Ytedabpldigcffaa
open Go.RowKit
set_option linter.unusedSimpArgs false
set_option linter.unusedVariables false

theorem formS_op {x : Ins} {f : Frm} (h : formS x = some f) : inR x.op 1 19 = true := by
  rw [inR_iff]
  by_cases hc : 1 ≤ x.op ∧ x.op ≤ 19
  · exact hc
  · have h2 : formS x = none := by
      unfold formS
      iterate 19 rw [if_neg (by omega)]
    rw [h2] at h
    cases h
theorem formS_none {x : Ins} (h : formS x = none) : inR x.op 1 19 = false := by
  rw [← Bool.not_eq_true, inR_iff]
  intro hc
  unfold formS at h
  have h1 : x.op = 1 ∨ x.op = 2 ∨ x.op = 3 ∨ x.op = 4 ∨ x.op = 5 ∨ x.op = 6 ∨ x.op = 7 ∨ x.op = 8 ∨ x.op = 9 ∨ x.op = 10 ∨ x.op = 11 ∨ x.op = 12 ∨ x.op = 13 ∨ x.op = 14 ∨ x.op = 15 ∨ x.op = 16 ∨ x.op = 17 ∨ x.op = 18 ∨ x.op = 19 := by omega
  rcases h1 with h1 | h1 | h1 | h1 | h1 | h1 | h1 | h1 | h1 | h1 | h1 | h1 | h1 | h1 | h1 | h1 | h1 | h1 | h1 <;> simp [h1] at h
/-- The cases of an operation. -/
theorem k_cases (k : Int) : k = 15 ∨ k = 12 ∨ k = 13 ∨ k = 14 ∨ k = 11 ∨ (inR k 4 10 = true ∧ k ≠ 15 ∧ k ≠ 12 ∧ k ≠ 13 ∧ k ≠ 14 ∧ k ≠ 11 ∧ inR k 4 15 = true ∧ argsN k = 2) ∨
    (inR k 4 10 = false ∧ k ≠ 15 ∧ k ≠ 12 ∧ k ≠ 13 ∧ k ≠ 14 ∧ k ≠ 11 ∧ inR k 4 15 = false ∧ argsN k = 0) := by
  by_cases h15 : k = 15
  · exact .inl h15
  by_cases h12 : k = 12
  · exact .inr (.inl h12)
  by_cases h13 : k = 13
  · exact .inr (.inr (.inl h13))
  by_cases h14 : k = 14
  · exact .inr (.inr (.inr (.inl h14)))
  by_cases h11 : k = 11
  · exact .inr (.inr (.inr (.inr (.inl h11))))
  refine .inr (.inr (.inr (.inr (.inr ?_))))
  cases h : inR k 4 10
  · refine .inr ⟨rfl, h15, h12, h13, h14, h11, ?_, ?_⟩
    · rw [← Bool.not_eq_true, inR_iff] at h ⊢
      omega
    · unfold argsN
      rw [if_neg h15, if_neg (by rw [h]; decide), if_neg]
      rw [← Bool.not_eq_true, inR_iff] at h
      rw [inR_iff]
      omega
  · refine .inl ⟨rfl, h15, h12, h13, h14, h11, ?_, ?_⟩
    · rw [inR_iff] at h ⊢
      omega
    · unfold argsN
      rw [if_neg h15, if_pos h]

theorem unused_eq (m : Mc) (x : Ins) (f : Frm) (h : formS x = some f) : unusedS f x = (!(names.all (nameOk (fieldsS m x) x)) || kpBad x) := by
  have ho := formS_op h
  obtain ⟨o, k, d, a, b, c, p, n, mm⟩ := x
  rw [inR_iff] at ho
  simp only at ho
  have h1 : o = 1 ∨ o = 3 ∨ o = 4 ∨ o = 5 ∨ o = 6 ∨ o = 7 ∨ o = 8 ∨ o = 9 ∨ o = 10 ∨ o = 12 ∨ o = 13 ∨ o = 14 ∨ o = 15 ∨ o = 16 ∨ o = 17 ∨ o = 18 ∨ o = 19 ∨ o = 2 ∨ o = 11 := by omega
  rcases h1 with rfl | rfl | rfl | rfl | rfl | rfl | rfl | rfl | rfl | rfl | rfl | rfl | rfl | rfl | rfl | rfl | rfl | h1
  iterate 17
    · simp [formS] at h
      subst h
      rw [Bool.eq_iff_iff]
      simp [unusedS, unusedK, Frm.fs, Ins.xs, names, nameOk, hasF, fieldsS, kpBad, condB, countedB, Ins.get, fldR, fldV]
      try omega
  · rcases k_cases k with rfl | rfl | rfl | rfl | rfl | ⟨h2, h3, h4, h5, h6, h7, h8, h9⟩ | ⟨h2, h3, h4, h5, h6, h7, h8, h9⟩
    iterate 5
      · rcases h1 with rfl | rfl
        · simp [formS, opForm, argsN, inR, nz] at h
          subst h
          rw [Bool.eq_iff_iff]
          simp [unusedS, unusedK, Frm.fs, Ins.xs, names, nameOk, hasF, fieldsS, opFields, inR, kpBad, condB, countedB, Ins.get, fldR, fldV, fldN]
          try omega
        · simp [formS, opForm, argsN, inR, nz] at h
          subst h
          rw [Bool.eq_iff_iff]
          simp [unusedS, unusedK, Frm.fs, Ins.xs, names, nameOk, hasF, fieldsS, opFields, inR, kpBad, condB, countedB, Ins.get, fldR, fldV, fldN]
          try omega
    iterate 2
      · have b3 : (k == 12) = false := by simpa using h4
        have b4 : (k == 13) = false := by simpa using h5
        have b5 : (k == 14) = false := by simpa using h6
        rcases h1 with rfl | rfl
        · simp [formS, opForm, h9, b3, b4, b5, nz] at h
          subst h
          rw [Bool.eq_iff_iff]
          simp [unusedS, unusedK, Frm.fs, Ins.xs, names, nameOk, hasF, fieldsS, opFields, h2, h3, h4, h5, h6, kpBad, condB, countedB, Ins.get, fldR, fldV, fldN]
          try omega
        · simp [formS, opForm, h9, b3, b4, b5, nz] at h
          subst h
          rw [Bool.eq_iff_iff]
          simp [unusedS, unusedK, Frm.fs, Ins.xs, names, nameOk, hasF, fieldsS, opFields, h2, h3, h4, h5, h6, kpBad, condB, countedB, Ins.get, fldR, fldV, fldN]
          try omega

theorem ranged_eq (m : Mc) (x : Ins) (f : Frm) (hm : m.okB = true) (h : formS x = some f) :
    rangedS m f x = ((fieldsS m x).all (fun g => inR (x.get g.name) g.low g.high) && !lastBad x) := by
  have ho := formS_op h
  have hbk : 256 ≤ m.bank ∧ m.bank ≤ 4096 ∧ 2 ≤ m.lanes ∧ m.lanes ≤ 8 := by
    unfold Mc.okB at hm
    simp only [Bool.and_eq_true, inR_iff] at hm
    omega
  obtain ⟨m0, m1, m2, m3, m4⟩ := m
  obtain ⟨o, k, d, a, b, c, p, n, mm⟩ := x
  rw [inR_iff] at ho
  simp only at ho hbk
  clear hm
  have h1 : o = 1 ∨ o = 3 ∨ o = 4 ∨ o = 5 ∨ o = 6 ∨ o = 7 ∨ o = 8 ∨ o = 9 ∨ o = 10 ∨ o = 12 ∨ o = 13 ∨ o = 14 ∨ o = 15 ∨ o = 16 ∨ o = 17 ∨ o = 18 ∨ o = 19 ∨ o = 2 ∨ o = 11 := by omega
  rcases h1 with rfl | rfl | rfl | rfl | rfl | rfl | rfl | rfl | rfl | rfl | rfl | rfl | rfl | rfl | rfl | rfl | rfl | h1
  iterate 17
    · simp [formS] at h
      subst h
      rw [Bool.eq_iff_iff]
      simp [rangedS, rangedK, rangedX, Frm.fs, Ins.xs, fieldOk, fieldsS, lastBad, countedB, Ins.get, fldR, fldV, inR]
      try omega
  · rcases k_cases k with rfl | rfl | rfl | rfl | rfl | ⟨h2, h3, h4, h5, h6, h7, h8, h9⟩ | ⟨h2, h3, h4, h5, h6, h7, h8, h9⟩
    iterate 5
      · rcases h1 with rfl | rfl
        · simp [formS, opForm, argsN, inR, nz] at h
          subst h
          rw [Bool.eq_iff_iff]
          simp [rangedS, rangedK, rangedX, rangedOp, argsN, Frm.fs, Ins.xs, fieldOk, fieldsS, opFields, lastBad, countedB, Ins.get, fldR, fldV, fldN, inR]
          try omega
        · simp [formS, opForm, argsN, inR, nz] at h
          subst h
          rw [Bool.eq_iff_iff]
          simp [rangedS, rangedK, rangedX, rangedOp, argsN, Frm.fs, Ins.xs, fieldOk, fieldsS, opFields, lastBad, countedB, Ins.get, fldR, fldV, fldN, inR]
          try omega
    iterate 2
      · have b3 : (k == 12) = false := by simpa using h4
        have b4 : (k == 13) = false := by simpa using h5
        have b5 : (k == 14) = false := by simpa using h6
        rcases h1 with rfl | rfl
        · simp [formS, opForm, h9, b3, b4, b5, nz] at h
          subst h
          rw [Bool.eq_iff_iff]
          simp [rangedS, rangedK, rangedX, rangedOp, h9, Frm.fs, Ins.xs, fieldOk, fieldsS, opFields, h2, h3, h4, h5, h6, h8, lastBad, countedB, Ins.get, fldR, fldV, fldN, inR_iff]
          try omega
        · simp [formS, opForm, h9, b3, b4, b5, nz] at h
          subst h
          rw [Bool.eq_iff_iff]
          simp [rangedS, rangedK, rangedX, rangedOp, h9, Frm.fs, Ins.xs, fieldOk, fieldsS, opFields, h2, h3, h4, h5, h6, h8, lastBad, countedB, Ins.get, fldR, fldV, fldN, inR_iff]
          try omega

/-- What the checker says of one instruction, by what the specification says of it. -/
theorem insE_F {m : Mc} {D : Nat} {x : Ins} (hm : m.okB = true) :
    insE m D x = if instrF m x = 0 then (if x.op = 4 ∧ D = 0 then 7 else if x.op = 3 ∧ 16 ≤ D then 2 else 0) else instrF m x := by
  unfold insE
  cases hf : formS x with
  | none =>
    have h4 : instrF m x = 4 := by unfold instrF; rw [if_pos (formS_none hf)]
    rw [h4]
    rfl
  | some f =>
    simp only
    rw [unused_eq m x f hf, ranged_eq m x f hm hf]
    have ho := formS_op hf
    have hI : instrF m x = if names.all (nameOk (fieldsS m x) x) = false then 3 else if kpBad x then 3 else if (fieldsS m x).all (fun f => inR (x.get f.name) f.low f.high) = false then 9 else if lastBad x then 9 else 0 := by
      unfold instrF; rw [if_neg (by rw [ho]; decide)]
    rw [hI]
    cases names.all (nameOk (fieldsS m x) x) <;> cases kpBad x <;> cases (fieldsS m x).all (fun f => inR (x.get f.name) f.low f.high) <;> cases lastBad x <;> simp
end Go.Proofs.Ytedabpldigcffaa
