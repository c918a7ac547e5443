/- The words of code, and how they are read back: plain definitions and laws. No program is named here; no condition. -/
import Derived.Test.YtedabpldigcffaaCheckF
namespace Go.Proofs.Ytedabpldigcffaa
open Go.RowKit

/-- The four words of an instruction. -/
def w0S (x : Ins) : Int := wrap64 (wrap64 (wrap64 (x.op + wrap64 (64 * x.k)) + wrap64 (4096 * x.d)) + wrap64 (131072 * x.a))
def w1S (x : Ins) : Int := wrap64 (wrap64 (x.b + wrap64 (32 * wrap64 (x.c + 1024))) + wrap64 (65536 * x.p))
def wordsS (x : Ins) : List Int := [w0S x, w1S x, x.n, x.m]
def encS (xs : List Ins) : List Int := xs.flatMap wordsS
theorem encS_length (xs : List Ins) : (encS xs).length = 4 * xs.length := by
  induction xs with
  | nil => rfl
  | cons x l ih => simp only [encS, List.flatMap_cons, List.length_append, List.length_cons] at ih ⊢; rw [ih]; simp [wordsS]; omega
theorem encS_snoc (xs : List Ins) (x : Ins) : encS (xs ++ [x]) = encS xs ++ wordsS x := by simp [encS]
theorem encS_one (x : Ins) : encS [x] = wordsS x := by simp [encS]
theorem encS_take (xs : List Ins) (k : Nat) (x : Ins) (hx : xs[k]? = some x) : encS (xs.take (k + 1)) = encS (xs.take k) ++ wordsS x := by
  rw [List.take_add_one, hx]
  exact encS_snoc _ _

/-- The fields that four words have. -/
def fieldsW (p q n m : Int) : Ins := ⟨p % 64, p / 64 % 64, p / 4096 % 32, p / 131072 % 32, q % 32, q / 32 % 2048 - 1024, q / 65536 % 32, n, m⟩
def okW (p q n m : Int) : Bool := inR p 0 4194303 && (inR q 0 2097151 && (inR n (-2147483648) 2147483647 && (inR m (-2147483648) 2147483647 && inR (q / 32 % 2048 - 1024) (-1000) 1000)))
theorem words_fields (p q n m : Int) : (wordsS (fieldsW p q n m) = [p, q, n, m]) ↔ (inR p 0 4194303 = true ∧ inR q 0 2097151 = true) := by
  have h0 : w0S (fieldsW p q n m) = p % 4194304 := by
    simp only [w0S, fieldsW]
    unfold wrap64
    omega
  have h1 : w1S (fieldsW p q n m) = q % 2097152 := by
    simp only [w1S, fieldsW]
    unfold wrap64
    omega
  simp only [wordsS, h0, h1, List.cons.injEq, and_true, inR, Bool.and_eq_true, decide_eq_true_eq]
  simp only [fieldsW, and_self, and_true]
  omega

/-- The first j groups of four words, read. -/
def decAt (ws : List Int) : Nat → Option (List Ins)
  | 0 => some []
  | j + 1 => match decAt ws j with
    | none => none
    | some xs => if okW (ws.getD (4 * j) 0) (ws.getD (4 * j + 1) 0) (ws.getD (4 * j + 2) 0) (ws.getD (4 * j + 3) 0) then some (xs ++ [fieldsW (ws.getD (4 * j) 0) (ws.getD (4 * j + 1) 0) (ws.getD (4 * j + 2) 0) (ws.getD (4 * j + 3) 0)]) else none
theorem decAt_none (ws : List Int) (j : Nat) (h : decAt ws j = none) : ∀ d, decAt ws (j + d) = none
  | 0 => h
  | d + 1 => by
    show (match decAt ws (j + d) with | none => none | some xs => _) = _
    rw [decAt_none ws j h d]
theorem decAt_length (ws : List Int) : ∀ (j : Nat) (xs : List Ins), decAt ws j = some xs → xs.length = j
  | 0, xs, h => by cases h; rfl
  | j + 1, xs, h => by
    unfold decAt at h
    split at h
    · cases h
    · rename_i ys hy
      split at h
      · cases h
        simp [decAt_length ws j ys hy]
      · cases h
theorem decAt_ok (ws : List Int) (j : Nat) (xs : List Ins) (p q n m : Int) (h : decAt ws j = some xs) (h0 : ws[4 * j]? = some p) (h1 : ws[4 * j + 1]? = some q) (h2 : ws[4 * j + 2]? = some n) (h3 : ws[4 * j + 3]? = some m) (hk : okW p q n m = true) :
    decAt ws (j + 1) = some (xs ++ [fieldsW p q n m]) := by
  unfold decAt
  rw [h]
  simp [List.getD_eq_getElem?_getD, h0, h1, h2, h3, hk]
theorem decAt_bad (ws : List Int) (j : Nat) (xs : List Ins) (p q n m : Int) (h : decAt ws j = some xs) (h0 : ws[4 * j]? = some p) (h1 : ws[4 * j + 1]? = some q) (h2 : ws[4 * j + 2]? = some n) (h3 : ws[4 * j + 3]? = some m) (hk : okW p q n m = false) (hj : 4 * j < ws.length) :
    decAt ws (ws.length / 4) = none ∨ ws.length % 4 ≠ 0 := by
  by_cases h4 : ws.length % 4 = 0
  · left
    have hn : decAt ws (j + 1) = none := by
      unfold decAt
      rw [h]
      simp [List.getD_eq_getElem?_getD, h0, h1, h2, h3, hk]
    have := decAt_none ws (j + 1) hn (ws.length / 4 - (j + 1))
    rwa [show j + 1 + (ws.length / 4 - (j + 1)) = ws.length / 4 by omega] at this
  · exact .inr h4
/-- The error of reading words for a right machine. -/
def decE (m : Mc) (ws : List Int) : Int :=
  if ws.length % 4 = 0 then (match decAt ws (ws.length / 4) with | none => 3 | some xs => checkS m xs) else 11
/-- The code that words have, if they have one. -/
def decX (m : Mc) (ws : List Int) : List Ins := if decE m ws = 0 then (decAt ws (ws.length / 4)).getD [] else []
theorem decE_short {m : Mc} {ws : List Int} (h : ws.length % 4 ≠ 0) : decE m ws = 11 := by unfold decE; rw [if_neg h]
theorem decE_none {m : Mc} {ws : List Int} (h : ws.length % 4 = 0) (hn : decAt ws (ws.length / 4) = none) : decE m ws = 3 := by unfold decE; rw [if_pos h, hn]
theorem decE_some {m : Mc} {ws : List Int} {xs : List Ins} (h : ws.length % 4 = 0) (hn : decAt ws (ws.length / 4) = some xs) : decE m ws = checkS m xs := by unfold decE; rw [if_pos h, hn]
theorem decX_bad {m : Mc} {ws : List Int} (h : decE m ws ≠ 0) : decX m ws = [] := by unfold decX; rw [if_neg h]
theorem decX_ok {m : Mc} {ws : List Int} {xs : List Ins} (h : decE m ws = 0) (hn : decAt ws (ws.length / 4) = some xs) : decX m ws = xs := by unfold decX; rw [if_pos h, hn]; rfl
end Go.Proofs.Ytedabpldigcffaa
