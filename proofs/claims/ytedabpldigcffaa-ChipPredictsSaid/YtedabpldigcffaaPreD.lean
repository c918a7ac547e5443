/- What a checked instruction is, and how code runs in general (plain). -/
import Derived.Test.YtedabpldigcffaaRefH
import Derived.Maps.OwnOps
import Derived.Maps.OwnSet
import Derived.Maps.Views
namespace Go.Proofs.Ytedabpldigcffaa
open Go.RowKit
set_option linter.unusedSimpArgs false
set_option linter.unusedVariables false

/-- What a checked instruction is. -/
structure VI (m : Mc) (x : Ins) : Prop where
  op : 1 ≤ x.op ∧ x.op ≤ 19
  p : 0 ≤ x.p ∧ x.p ≤ 16
  d : 0 ≤ x.d ∧ x.d ≤ 15
  a : 0 ≤ x.a ∧ x.a ≤ 15
  b : 0 ≤ x.b ∧ x.b ≤ 15
  c : -1000 ≤ x.c ∧ x.c ≤ 1000
  n : -2147483648 ≤ x.n ∧ x.n ≤ 2147483647
  mm : -2147483648 ≤ x.m ∧ x.m ≤ 2147483647
  cr : x.op = 2 → 0 ≤ x.c ∧ x.c ≤ 15
  dv : (x.op = 9 ∨ x.op = 11 ∨ x.op = 12 ∨ x.op = 17) → x.d ≤ 7
  av : (x.op = 11 ∨ x.op = 13 ∨ x.op = 15) → x.a ≤ 7
  bv : (x.op = 10 ∨ x.op = 11) → x.b ≤ 7
  cv : x.op = 11 → 0 ≤ x.c ∧ x.c ≤ 7
  cb : (x.op = 7 ∨ x.op = 8 ∨ x.op = 9 ∨ x.op = 10 ∨ x.op = 14 ∨ x.op = 18) → 0 ≤ x.c ∧ x.c ≤ m.banks - 1
  q : (x.op = 18 ∨ x.op = 19) → x.d ≤ m.queues - 1
  ks : x.op = 18 → (x.k = 1 ∨ x.k = 2) ∧ 1 ≤ x.m ∧ x.m ≤ m.bank
  ln : x.op = 13 → 0 ≤ x.n ∧ x.n ≤ m.lanes - 1
  wm : x.op = 14 → 0 ≤ x.m ∧ x.m ≤ m.bank
  lo : x.op = 3 → 0 ≤ x.m ∧ x.m ≤ 1000000
  ko : (x.op = 2 ∨ x.op = 11) → 4 ≤ x.k ∧ x.k ≤ 15
  kc : (x.op = 2 ∨ x.op = 11) → (x.k = 12 → x.n ≤ x.m) ∧ (x.k = 13 → 1 ≤ x.n ∧ x.n ≤ 31) ∧ (x.k = 14 → 1 ≤ x.n)
  pp : x.p ≠ 0 → x.op = 1 ∨ x.op = 2 ∨ x.op = 5 ∨ x.op = 6 ∨ x.op = 7 ∨ x.op = 8

theorem mc_ok {m : Mc} (h : m.okB = true) : (1 ≤ m.main ∧ m.main ≤ 524288) ∧ (2 ≤ m.banks ∧ m.banks ≤ 8) ∧ (256 ≤ m.bank ∧ m.bank ≤ 4096) ∧ (2 ≤ m.lanes ∧ m.lanes ≤ 8) ∧ (1 ≤ m.queues ∧ m.queues ≤ 4) := by
  unfold Mc.okB at h
  simp only [Bool.and_eq_true, inR_iff] at h
  omega

set_option maxHeartbeats 4000000 in
theorem insE_valid {m : Mc} {D : Nat} {x : Ins} (hm : m.okB = true) (h : insE m D x = 0) : VI m x := by
  have hmc := mc_ok hm
  unfold insE at h
  cases hf : formS x with
  | none => rw [hf] at h; cases h
  | some f =>
    rw [hf] at h
    simp only at h
    by_cases hu : unusedS f x = true
    · rw [if_pos hu] at h; cases h
    rw [if_neg hu] at h
    by_cases hr : rangedS m f x = false
    · rw [if_pos hr] at h; cases h
    clear h
    replace hr : rangedS m f x = true := by simpa using hr
    replace hu : unusedS f x = false := by simpa using hu
    have ho := formS_op hf
    obtain ⟨m0, m1, m2, m3, m4⟩ := m
    obtain ⟨o, k, d, a, b, c, p, n, mm⟩ := x
    rw [inR_iff] at ho
    simp only at ho hmc
    clear hm
    have h1 : o = 1 ∨ o = 3 ∨ o = 4 ∨ o = 5 ∨ o = 6 ∨ o = 7 ∨ o = 8 ∨ o = 9 ∨ o = 10 ∨ o = 12 ∨ o = 13 ∨ o = 14 ∨ o = 15 ∨ o = 16 ∨ o = 17 ∨ o = 18 ∨ o = 19 ∨ o = 2 ∨ o = 11 := by omega
    rcases h1 with rfl | rfl | rfl | rfl | rfl | rfl | rfl | rfl | rfl | rfl | rfl | rfl | rfl | rfl | rfl | rfl | rfl | h1
    iterate 17
      · simp [formS] at hf
        subst hf
        simp [rangedS, rangedK, rangedX, Frm.fs, Ins.xs, fieldOk, inR] at hr
        simp [unusedS, unusedK, Frm.fs, Ins.xs] at hu
        constructor <;> simp <;> omega
    · rcases k_cases k with rfl | rfl | rfl | rfl | rfl | ⟨h2, h3, h4, h5, h6, h7, h8, h9⟩ | ⟨h2, h3, h4, h5, h6, h7, h8, h9⟩
      iterate 5
        · rcases h1 with rfl | rfl
          · simp [formS, opForm, argsN, inR, nz] at hf
            subst hf
            simp [rangedS, rangedK, rangedX, rangedOp, argsN, Frm.fs, Ins.xs, fieldOk, inR] at hr
            simp [unusedS, unusedK, Frm.fs, Ins.xs] at hu
            constructor <;> simp <;> omega
          · simp [formS, opForm, argsN, inR, nz] at hf
            subst hf
            simp [rangedS, rangedK, rangedX, rangedOp, argsN, Frm.fs, Ins.xs, fieldOk, inR] at hr
            simp [unusedS, unusedK, Frm.fs, Ins.xs] at hu
            constructor <;> simp <;> omega
      · have b3 : (k == 12) = false := by simpa using h4
        have b4 : (k == 13) = false := by simpa using h5
        have b5 : (k == 14) = false := by simpa using h6
        rw [inR_iff] at h2
        rcases h1 with rfl | rfl
        · simp [formS, opForm, h9, b3, b4, b5, nz] at hf
          subst hf
          simp [rangedS, rangedK, rangedX, rangedOp, h9, Frm.fs, Ins.xs, fieldOk, h3, h4, h5, h6, inR_iff] at hr
          simp [unusedS, unusedK, Frm.fs, Ins.xs] at hu
          constructor <;> simp <;> omega
        · simp [formS, opForm, h9, b3, b4, b5, nz] at hf
          subst hf
          simp [rangedS, rangedK, rangedX, rangedOp, h9, Frm.fs, Ins.xs, fieldOk, h3, h4, h5, h6, inR_iff] at hr
          simp [unusedS, unusedK, Frm.fs, Ins.xs] at hu
          constructor <;> simp <;> omega
      · exfalso
        have b3 : (k == 12) = false := by simpa using h4
        have b4 : (k == 13) = false := by simpa using h5
        have b5 : (k == 14) = false := by simpa using h6
        rcases h1 with rfl | rfl
        · simp [formS, opForm, h9, b3, b4, b5, nz] at hf
          subst hf
          simp [rangedS, rangedX, h9] at hr
        · simp [formS, opForm, h9, b3, b4, b5, nz] at hf
          subst hf
          simp [rangedS, rangedX, h9] at hr

/-- Every instruction of checked code. -/
theorem codeE_valid {m : Mc} (hm : m.okB = true) {xs : List Ins} : ∀ {D : Nat}, codeE m D xs = 0 → ∀ x ∈ xs, VI m x := by
  induction xs with
  | nil => intro D _ x hx; simp at hx
  | cons x xs ih =>
    intro D h y hy
    simp only [codeE] at h
    by_cases hi : insE m D x = 0
    · rw [if_pos hi] at h
      rcases List.mem_cons.1 hy with rfl | hy
      · exact insE_valid hm hi
      · exact ih h y hy
    · rw [if_neg hi] at h; exact absurd h hi

/-- What checkS says when nothing is wrong. -/
theorem checkS_zero {m : Mc} {xs : List Ins} (h : checkS m xs = 0) : m.okB = true ∧ codeE m 0 xs = 0 ∧ (turnsS xs).sum ≤ 40000000 := by
  unfold checkS at h
  by_cases h1 : m.okB = false
  · rw [if_pos h1] at h; cases h
  rw [if_neg h1] at h
  by_cases h2 : 400000 < xs.length
  · rw [if_pos h2] at h; cases h
  rw [if_neg h2] at h
  by_cases h3 : codeE m 0 xs = 0
  · rw [if_pos h3] at h
    by_cases h4 : 40000000 < (turnsS xs).sum
    · rw [if_pos h4] at h; cases h
    · exact ⟨by simpa using h1, h3, by omega⟩
  · rw [if_neg h3] at h; exact absurd h h3

/-! ### how often, with enough room -/
theorem cnt_fuel {xs : List Ins} : ∀ f p, xs.length ≤ p + f → cnt xs (f + 1) p = cnt xs f p := by
  intro f
  induction f with
  | zero => intro p hp; rw [cnt_past (by omega), cnt_past (by omega)]
  | succ f ih =>
    intro p hp
    cases hx : xs[p]? with
    | none => simp only [cnt, hx]
    | some x =>
      by_cases h4 : x.op = 4
      · rw [cnt_end hx h4, cnt_end hx h4]
      by_cases h3 : x.op = 3
      · rw [cnt_loop hx h3, cnt_loop hx h3, ih (p + 1) (by omega)]
        by_cases he : xs.length ≤ (cnt xs f (p + 1)).2
        · rw [cnt_past (p := (cnt xs f (p + 1)).2 + 1) (by omega), cnt_past (p := (cnt xs f (p + 1)).2 + 1) (by omega)]
        · by_cases hge : p + 1 ≤ (cnt xs f (p + 1)).2
          · rw [ih ((cnt xs f (p + 1)).2 + 1) (by omega)]
          · exfalso
            have : ∀ f p, p ≤ (cnt xs f p).2 := by
              intro f
              induction f with
              | zero => intro p; simp [cnt]
              | succ f ih =>
                intro p
                cases hx : xs[p]? with
                | none => simp only [cnt, hx]; omega
                | some x =>
                  by_cases h4 : x.op = 4
                  · simp only [cnt, hx, if_pos h4]; omega
                  by_cases h3 : x.op = 3
                  · simp only [cnt, hx, if_neg h4, if_pos h3]
                    have h1 := ih (p + 1)
                    have h2 := ih ((cnt xs f (p + 1)).2 + 1)
                    omega
                  · simp only [cnt, hx, if_neg h4, if_neg h3]
                    have h1 := ih (p + 1)
                    omega
            exact hge (this _ _)
      · rw [cnt_plain hx h3 h4, cnt_plain hx h3 h4, ih (p + 1) (by omega)]
theorem cnt_room {xs : List Ins} {f g p : Nat} (hf : xs.length ≤ p + f) (hg : xs.length ≤ p + g) : cnt xs f p = cnt xs g p := by
  have h : ∀ (d : Nat), ∀ f, xs.length ≤ p + f → cnt xs (f + d) p = cnt xs f p := by
    intro d
    induction d with
    | zero => intro f _; rfl
    | succ d ih => intro f hf; rw [← Nat.add_assoc, cnt_fuel _ _ (by omega), ih f hf]
  rcases Nat.le_total f g with hfg | hfg
  · obtain ⟨d, rfl⟩ := Nat.exists_eq_add_of_le hfg
    exact (h d f hf).symm
  · obtain ⟨d, rfl⟩ := Nat.exists_eq_add_of_le hfg
    exact h d g hg
theorem cnt_ge (xs : List Ins) : ∀ f p, p ≤ (cnt xs f p).2 := by
  intro f
  induction f with
  | zero => intro p; simp [cnt]
  | succ f ih =>
    intro p
    cases hx : xs[p]? with
    | none => simp only [cnt, hx]; omega
    | some x =>
      by_cases h4 : x.op = 4
      · simp only [cnt, hx, if_pos h4]; omega
      by_cases h3 : x.op = 3
      · simp only [cnt, hx, if_neg h4, if_pos h3]
        have h1 := ih (p + 1)
        have h2 := ih ((cnt xs f (p + 1)).2 + 1)
        omega
      · simp only [cnt, hx, if_neg h4, if_neg h3]
        have h1 := ih (p + 1)
        omega

/-! ### code that runs -/
section
variable {σ τ : Type}
/-- The same so often. -/
def iterS (f : σ → σ) : Nat → σ → σ
  | 0, s => s
  | n + 1, s => f (iterS f n s)
theorem iterS_rel {R : σ → τ → Prop} {f : σ → σ} {g : τ → τ} (h : ∀ s t, R s t → R (f s) (g t)) : ∀ (n : Nat) (s : σ) (t : τ), R s t → R (iterS f n s) (iterS g n t)
  | 0, _, _, hr => hr
  | n + 1, s, t, hr => h _ _ (iterS_rel h n s t hr)
theorem iterS_bound {B : Int → σ → Prop} {f : σ → σ} {e : Int} (h : ∀ c s, B c s → B (c + e) (f s)) : ∀ (n : Nat) (c : Int) (s : σ), B c s → B (c + n * e) (iterS f n s)
  | 0, c, s, hr => by simpa [iterS] using hr
  | n + 1, c, s, hr => by
    have := h _ _ (iterS_bound h n c s hr)
    rw [show c + ((n + 1 : Nat) : Int) * e = c + (n : Int) * e + e by push_cast; rw [Int.add_mul]; omega]
    exact this

/-- Code from a place to the end of its loop: each instruction's step; a loop's turns, each with a tick ahead. -/
def runS (step : Ins → σ → σ) (tick : σ → σ) (xs : List Ins) : Nat → Nat → σ → σ
  | 0, _, s => s
  | f + 1, q, s => match xs[q]? with
    | none => s
    | some x =>
      if x.op = 4 then s
      else if x.op = 3 then runS step tick xs f ((cnt xs f (q + 1)).2 + 1) (iterS (fun s => runS step tick xs f (q + 1) (tick s)) x.m.toNat (step x s))
      else runS step tick xs f (q + 1) (step x s)
variable {step : Ins → σ → σ} {tick : σ → σ} {step' : Ins → τ → τ} {tick' : τ → τ} {xs : List Ins}
theorem runS_past {p : Nat} (h : xs.length ≤ p) (f : Nat) (s : σ) : runS step tick xs f p s = s := by
  cases f with
  | zero => rfl
  | succ f => simp only [runS, List.getElem?_eq_none_iff.2 h]
theorem runS_end {p : Nat} {x : Ins} (hx : xs[p]? = some x) (h4 : x.op = 4) (f : Nat) (s : σ) : runS step tick xs f p s = s := by
  cases f with
  | zero => rfl
  | succ f => simp only [runS, hx, if_pos h4]
theorem runS_loop {p : Nat} {x : Ins} (hx : xs[p]? = some x) (h3 : x.op = 3) (f : Nat) (s : σ) :
    runS step tick xs (f + 1) p s = runS step tick xs f ((cnt xs f (p + 1)).2 + 1) (iterS (fun s => runS step tick xs f (p + 1) (tick s)) x.m.toNat (step x s)) := by
  simp only [runS, hx, if_pos h3, if_neg (show ¬ x.op = 4 by omega)]
theorem runS_plain {p : Nat} {x : Ins} (hx : xs[p]? = some x) (h3 : x.op ≠ 3) (h4 : x.op ≠ 4) (f : Nat) (s : σ) : runS step tick xs (f + 1) p s = runS step tick xs f (p + 1) (step x s) := by
  simp only [runS, hx, if_neg h3, if_neg h4]
theorem runS_rel {R : σ → τ → Prop} (hs : ∀ x ∈ xs, ∀ s t, R s t → R (step x s) (step' x t)) (ht : ∀ s t, R s t → R (tick s) (tick' t)) :
    ∀ f q s t, R s t → R (runS step tick xs f q s) (runS step' tick' xs f q t) := by
  intro f
  induction f with
  | zero => intro q s t h; exact h
  | succ f ih =>
    intro q s t h
    cases hx : xs[q]? with
    | none => simp only [runS, hx]; exact h
    | some x =>
      have hm := List.mem_of_getElem? hx
      by_cases h4 : x.op = 4
      · rw [runS_end hx h4, runS_end hx h4]; exact h
      by_cases h3 : x.op = 3
      · rw [runS_loop hx h3, runS_loop hx h3]
        exact ih _ _ _ (iterS_rel (fun s t hr => ih _ _ _ (ht _ _ hr)) _ _ _ (hs x hm _ _ h))
      · rw [runS_plain hx h3 h4, runS_plain hx h3 h4]
        exact ih _ _ _ (hs x hm _ _ h)
theorem runS_bound {B : Int → σ → Prop} {K : Int} (hm : loopsOk xs) (hs : ∀ x ∈ xs, ∀ c s, B c s → B (c + K) (step x s)) (ht : ∀ c s, B c s → B (c + K) (tick s)) :
    ∀ f q c s, B c s → B (c + K * (cnt xs f q).1) (runS step tick xs f q s) := by
  intro f
  induction f with
  | zero => intro q c s h; simpa [cnt, runS] using h
  | succ f ih =>
    intro q c s h
    cases hx : xs[q]? with
    | none => simp only [cnt, runS, hx]; simpa using h
    | some x =>
      have hmx := List.mem_of_getElem? hx
      by_cases h4 : x.op = 4
      · rw [runS_end hx h4, cnt_end hx h4]; simpa using h
      by_cases h3 : x.op = 3
      · rw [runS_loop hx h3, cnt_loop hx h3]
        have h0 := (hm x hmx h3).1
        have h1 := iterS_bound (B := B) (e := K * ((cnt xs f (q + 1)).1 + 1)) (f := fun s => runS step tick xs f (q + 1) (tick s)) (fun c s hb => by
          have := ih (q + 1) _ _ (ht _ _ hb)
          rw [show c + K * ((cnt xs f (q + 1)).1 + 1) = c + K + K * (cnt xs f (q + 1)).1 by rw [Int.mul_add, Int.mul_one]; omega]
          exact this) x.m.toNat _ _ (hs x hmx _ _ h)
        have h2 := ih ((cnt xs f (q + 1)).2 + 1) _ _ h1
        have e1 : ((x.m.toNat : Nat) : Int) = x.m := Int.toNat_of_nonneg h0
        rw [e1] at h2
        simp only
        have e2 : c + K * (1 + x.m * ((cnt xs f (q + 1)).1 + 1) + (cnt xs f ((cnt xs f (q + 1)).2 + 1)).1) = c + K + x.m * (K * ((cnt xs f (q + 1)).1 + 1)) + K * (cnt xs f ((cnt xs f (q + 1)).2 + 1)).1 := by
          generalize (cnt xs f (q + 1)).1 + 1 = u
          generalize (cnt xs f ((cnt xs f (q + 1)).2 + 1)).1 = v
          rw [Int.mul_add, Int.mul_add, Int.mul_one, Int.mul_left_comm]
          omega
        rw [e2]
        exact h2
      · rw [runS_plain hx h3 h4, cnt_plain hx h3 h4]
        have h2 := ih (q + 1) _ _ (hs x hmx _ _ h)
        simp only
        rw [show c + K * (1 + (cnt xs f (q + 1)).1) = c + K + K * (cnt xs f (q + 1)).1 by rw [Int.mul_add, Int.mul_one]; omega]
        exact h2
end
end Go.Proofs.Ytedabpldigcffaa
namespace Go.Proofs.Ytedabpldigcffaa
open Go.RowKit
set_option linter.unusedSimpArgs false
set_option linter.unusedVariables false

def addI (o : Int → Int) (k v : Int) : Int → Int := fun j => if j = k then o j + v else o j
/-- How often instructions of kind j are executed, by the checker's turns. -/
def sumJ (j : Int) : List Int → List Ins → Int
  | _, [] => 0
  | st, x :: xs => (if x.op = j then st.headD 0 else 0) + sumJ j (stStep st x) xs
theorem sumJ_snoc (j : Int) (x : Ins) : ∀ (l : List Ins) (st : List Int), sumJ j st (l ++ [x]) = sumJ j st l + if x.op = j then (l.foldl stStep st).headD 0 else 0
  | [], st => by simp [sumJ]
  | y :: l, st => by
    simp only [List.cons_append, sumJ, List.foldl_cons]
    rw [sumJ_snoc j x l]
    omega
/-- The counts, from a place to the end of its loop, so many times. -/
def ctdS (xs : List Ins) : Nat → Nat → Int → (Int → Int) → (Int → Int)
  | 0, _, _, o => o
  | f + 1, q, t, o => match xs[q]? with
    | none => o
    | some x =>
      if x.op = 4 then o
      else if x.op = 3 then ctdS xs f ((cnt xs f (q + 1)).2 + 1) t (addI (ctdS xs f (q + 1) (t * x.m) (addI o x.op t)) 4 (t * x.m))
      else ctdS xs f (q + 1) t (addI o x.op t)
section
variable {xs : List Ins} {p : Nat} {x : Ins}
theorem ctdS_past (h : xs.length ≤ p) (f : Nat) (t : Int) (o : Int → Int) : ctdS xs f p t o = o := by
  cases f with
  | zero => rfl
  | succ f => simp only [ctdS, List.getElem?_eq_none_iff.2 h]
theorem ctdS_end (hx : xs[p]? = some x) (h4 : x.op = 4) (f : Nat) (t : Int) (o : Int → Int) : ctdS xs f p t o = o := by
  cases f with
  | zero => rfl
  | succ f => simp only [ctdS, hx, if_pos h4]
theorem ctdS_loop (hx : xs[p]? = some x) (h3 : x.op = 3) (f : Nat) (t : Int) (o : Int → Int) :
    ctdS xs (f + 1) p t o = ctdS xs f ((cnt xs f (p + 1)).2 + 1) t (addI (ctdS xs f (p + 1) (t * x.m) (addI o x.op t)) 4 (t * x.m)) := by
  simp only [ctdS, hx, if_pos h3, if_neg (show ¬ x.op = 4 by omega)]
theorem ctdS_plain (hx : xs[p]? = some x) (h3 : x.op ≠ 3) (h4 : x.op ≠ 4) (f : Nat) (t : Int) (o : Int → Int) : ctdS xs (f + 1) p t o = ctdS xs f (p + 1) t (addI o x.op t) := by
  simp only [ctdS, hx, if_neg h3, if_neg h4]
end
theorem addI_ge {o : Int → Int} {k v : Int} (h : 0 ≤ v) (j : Int) : o j ≤ addI o k v j := by unfold addI; split <;> omega
theorem ctdS_mono {xs : List Ins} (hm : loopsOk xs) : ∀ f q t o, 0 ≤ t → ∀ j, o j ≤ ctdS xs f q t o j := by
  intro f
  induction f with
  | zero => intro q t o _ j; exact Int.le_refl _
  | succ f ih =>
    intro q t o ht j
    cases hx : xs[q]? with
    | none => simp only [ctdS, hx]; exact Int.le_refl _
    | some x =>
      by_cases h4 : x.op = 4
      · rw [ctdS_end hx h4]; exact Int.le_refl _
      by_cases h3 : x.op = 3
      · rw [ctdS_loop hx h3]
        have hM := Int.mul_nonneg ht (hm x (List.mem_of_getElem? hx) h3).1
        have h1 := addI_ge (o := o) (k := x.op) ht j
        have h2 := ih (q + 1) _ (addI o x.op t) hM j
        have h5 := addI_ge (o := ctdS xs f (q + 1) (t * x.m) (addI o x.op t)) (k := 4) hM j
        have h6 := ih ((cnt xs f (q + 1)).2 + 1) t (addI (ctdS xs f (q + 1) (t * x.m) (addI o x.op t)) 4 (t * x.m)) ht j
        omega
      · rw [ctdS_plain hx h3 h4]
        have h1 := addI_ge (o := o) (k := x.op) ht j
        have h2 := ih (q + 1) t (addI o x.op t) ht j
        omega

theorem sumS_nonneg {xs : List Ins} : ∀ (st : List Int), loopsOk xs → (∀ u ∈ st, 0 ≤ u ∧ u ≤ 40000001) → 0 ≤ sumS st xs := by
  induction xs with
  | nil => intro st _ _; exact Int.le_refl _
  | cons x xs ih =>
    intro st hm hs
    simp only [sumS]
    have h1 := ih (stStep st x) (fun y hy => hm y (by simp [hy])) (stStep_bound hs (hm x (by simp)))
    have h2 : 0 ≤ st.headD 0 := by
      cases st with
      | nil => simp
      | cons a st => exact (hs a (by simp)).1
    omega
theorem sumJ_bound {xs : List Ins} (j : Int) : ∀ (st : List Int), loopsOk xs → (∀ u ∈ st, 0 ≤ u ∧ u ≤ 40000001) → 0 ≤ sumJ j st xs ∧ sumJ j st xs ≤ 40000001 * xs.length := by
  induction xs with
  | nil => intro st _ _; simp [sumJ]
  | cons x xs ih =>
    intro st hm hs
    simp only [sumJ, List.length_cons]
    have h1 := ih (stStep st x) (fun y hy => hm y (by simp [hy])) (stStep_bound hs (hm x (by simp)))
    have h2 : 0 ≤ st.headD 0 ∧ st.headD 0 ≤ 40000001 := by
      cases st with
      | nil => simp
      | cons a st => exact hs a (by simp)
    split <;> omega
theorem sumJ_le {xs : List Ins} (j : Int) : ∀ (st : List Int), loopsOk xs → (∀ u ∈ st, 0 ≤ u ∧ u ≤ 40000001) → sumJ j st xs ≤ sumS st xs := by
  induction xs with
  | nil => intro st _ _; simp [sumJ, sumS]
  | cons x xs ih =>
    intro st hm hs
    simp only [sumJ, sumS]
    have h1 := ih (stStep st x) (fun y hy => hm y (by simp [hy])) (stStep_bound hs (hm x (by simp)))
    have h2 : 0 ≤ st.headD 0 := by
      cases st with
      | nil => simp
      | cons a st => exact (hs a (by simp)).1
    split <;> omega

theorem loopsOk_drop {xs : List Ins} (h : loopsOk xs) (k : Nat) : loopsOk (xs.drop k) := fun x hx => h x (List.mem_of_mem_drop hx)
theorem ctd_sum {m : Mc} {xs : List Ins} (hm : loopsOk xs) : ∀ (f p : Nat) (t : Int) (st : List Int) (D : Nat) (o : Int → Int), xs.length ≤ p + f → (∀ u ∈ t :: st, 0 ≤ u ∧ u ≤ 40000001) → codeE m D (xs.drop p) = 0 → sumS (t :: st) (xs.drop p) ≤ 40000000 →
    ∀ j, ctdS xs f p t o j + sumJ j (t :: st) (xs.drop (cnt xs f p).2) = o j + sumJ j (t :: st) (xs.drop p) := by
  intro f
  induction f with
  | zero => intro p t st D o _ _ _ _ j; rfl
  | succ f ih =>
    intro p t st D o hl hst hc hs j
    have ht := hst t (by simp)
    cases hx : xs[p]? with
    | none =>
      have e : cnt xs (f + 1) p = (0, p) := by simp only [cnt, hx]
      rw [e]
      simp only [ctdS, hx]
    | some x =>
      obtain ⟨hp, ex⟩ := List.getElem?_eq_some_iff.1 hx
      have hd : xs.drop p = x :: xs.drop (p + 1) := by rw [List.drop_eq_getElem_cons hp, ex]
      by_cases h4 : x.op = 4
      · rw [cnt_end hx h4, ctdS_end hx h4]
      rw [hd] at hc hs ⊢
      simp only [codeE] at hc
      have hi : insE m D x = 0 := by
        by_cases hi : insE m D x = 0
        · exact hi
        · rw [if_neg hi] at hc; exact absurd hc hi
      rw [if_pos hi] at hc
      by_cases h3 : x.op = 3
      · have hxm : 0 ≤ x.m ∧ x.m ≤ 1000000 := hm x (List.mem_of_getElem? hx) h3
        have hA := Int.mul_nonneg ht.1 hxm.1
        have hD : dStep D x = D + 1 := by simp [dStep, h3]
        rw [hD] at hc
        have hs1 : stStep (t :: st) x = sat (t * x.m) :: t :: st := by simp [stStep, h3, sat]
        simp only [sumS, sumJ, hs1, List.headD_cons] at hs ⊢
        have hv : 0 ≤ sat (t * x.m) ∧ sat (t * x.m) ≤ 40000001 := by unfold sat; omega
        have hst1 : ∀ u ∈ sat (t * x.m) :: t :: st, 0 ≤ u ∧ u ≤ 40000001 := fun u hu => by
          rcases List.mem_cons.1 hu with rfl | hu
          · exact hv
          · exact hst u hu
        obtain ⟨a1, a2, a3, a4, q1, b1, b2, b3⟩ := cnt_sum hm f (p + 1) (sat (t * x.m)) (t :: st) (D + 1) (by omega) hv.1 hv.2 hc
        have I1 := ih (p + 1) (sat (t * x.m)) (t :: st) (D + 1) (addI o x.op t) (by omega) hst1 hc (by omega) j
        rw [cnt_loop hx h3, ctdS_loop hx h3]
        simp only
        generalize he1 : (cnt xs f (p + 1)).2 = e1 at *
        cases hy : xs[e1]? with
        | none =>
          have : xs.drop e1 = [] := List.drop_eq_nil_of_le (List.getElem?_eq_none_iff.1 hy)
          rw [this] at a3
          simp [codeE] at a3
        | some y =>
          obtain ⟨hp1, ey⟩ := List.getElem?_eq_some_iff.1 hy
          have hd1 : xs.drop e1 = y :: xs.drop (e1 + 1) := by rw [List.drop_eq_getElem_cons hp1, ey]
          have hy4 := a4 y hy
          rw [hd1] at a3 b2 I1
          simp only [codeE] at a3
          have hiy : insE m (D + 1) y = 0 := by
            by_cases hi : insE m (D + 1) y = 0
            · exact hi
            · rw [if_neg hi] at a3; exact absurd a3 hi
          rw [if_pos hiy, show dStep (D + 1) y = D by simp [dStep, hy4]] at a3
          have hs2 : stStep (sat (t * x.m) :: t :: st) y = t :: st := by simp [stStep, hy4]
          simp only [sumS, sumJ, hs2, List.headD_cons] at b2 I1
          have hn := sumS_nonneg (t :: st) (loopsOk_drop hm (e1 + 1)) hst
          have hb3 : sumS (t :: st) (xs.drop (e1 + 1)) ≤ 40000000 := by omega
          have hv4 : sat (t * x.m) ≤ 40000000 := by omega
          have hvv : sat (t * x.m) = t * x.m := by
            clear hs b2 b3 I1 hn hb3
            unfold sat at *
            omega
          rw [hvv] at I1
          have I2 := ih (e1 + 1) t st D (addI (ctdS xs f (p + 1) (t * x.m) (addI o x.op t)) 4 (t * x.m)) (by omega) hst a3 hb3 j
          rw [hvv]
          have k1 : addI (ctdS xs f (p + 1) (t * x.m) (addI o x.op t)) 4 (t * x.m) j = ctdS xs f (p + 1) (t * x.m) (addI o x.op t) j + if y.op = j then t * x.m else 0 := by
            unfold addI
            rw [hy4]
            by_cases hj : j = 4
            · rw [if_pos hj, if_pos hj.symm]
            · rw [if_neg hj, if_neg (Ne.symm hj), Int.add_zero]
          have k2 : addI o x.op t j = o j + if x.op = j then t else 0 := by
            unfold addI
            by_cases hj : j = x.op
            · rw [if_pos hj, if_pos hj.symm]
            · rw [if_neg hj, if_neg (Ne.symm hj), Int.add_zero]
          rw [k1] at I2
          rw [k2] at I1
          omega
      · have hD : dStep D x = D := by simp [dStep, h3, h4]
        rw [hD] at hc
        have hs1 : stStep (t :: st) x = t :: st := by simp [stStep, h3, h4]
        simp only [sumS, sumJ, hs1, List.headD_cons] at hs ⊢
        rw [cnt_plain hx h3 h4, ctdS_plain hx h3 h4]
        have I1 := ih (p + 1) t st D (addI o x.op t) (by omega) hst hc (by omega) j
        have k2 : addI o x.op t j = o j + if x.op = j then t else 0 := by
          unfold addI
          by_cases hj : j = x.op
          · rw [if_pos hj, if_pos hj.symm]
          · rw [if_neg hj, if_neg (Ne.symm hj), Int.add_zero]
        rw [k2] at I1
        simp only
        omega

theorem cnt_all {m : Mc} {xs : List Ins} (h : codeE m 0 xs = 0) : xs.length ≤ (cnt xs xs.length 0).2 := by
  obtain ⟨a1, _, a3, a4, q, b1, b2, b3⟩ := cnt_sum (codeE_loops h) xs.length 0 1 [] 0 (by omega) (by decide) (by decide) h
  cases hy : xs[(cnt xs xs.length 0).2]? with
  | none => exact List.getElem?_eq_none_iff.1 hy
  | some y =>
    exfalso
    obtain ⟨hp, ey⟩ := List.getElem?_eq_some_iff.1 hy
    rw [List.drop_eq_getElem_cons hp, ey] at a3
    simp only [codeE] at a3
    have hi : insE m 0 y = 0 := by
      by_cases hi : insE m 0 y = 0
      · exact hi
      · rw [if_neg hi] at a3; exact absurd a3 hi
    have := insE_op4 hi (a4 y hy)
    omega
theorem turns_sum_sumS (xs : List Ins) : (turnsS xs).sum = sumS [1] xs := turns_sumS xs [1]
/-- The counts are those of the turns. -/
theorem ctd_all {m : Mc} {xs : List Ins} (h : codeE m 0 xs = 0) (ht : (turnsS xs).sum ≤ 40000000) (j : Int) : ctdS xs xs.length 0 1 (fun _ => 0) j = sumJ j [1] xs := by
  have h1 := ctd_sum (codeE_loops h) xs.length 0 1 [] 0 (fun _ => 0) (by omega) (by simp) h (by rw [List.drop_zero, ← turns_sum_sumS]; exact ht) j
  rw [List.drop_eq_nil_of_le (cnt_all h), List.drop_zero] at h1
  simp only [sumJ] at h1
  omega
theorem ctd_le {m : Mc} {xs : List Ins} (h : codeE m 0 xs = 0) (ht : (turnsS xs).sum ≤ 40000000) (j : Int) : ctdS xs xs.length 0 1 (fun _ => 0) j ≤ 40000000 := by
  rw [ctd_all h ht]
  have := sumJ_le j [1] (codeE_loops h) (by simp)
  rw [← turns_sum_sumS] at this
  omega
/-- How many instructions are executed: not too many. -/
theorem cnt_le {m : Mc} {xs : List Ins} (h : codeE m 0 xs = 0) (ht : (turnsS xs).sum ≤ 40000000) : (cnt xs xs.length 0).1 ≤ 40000000 := by
  have h1 : ¬ 40000000 < sat (cnt xs xs.length 0).1 := fun h2 => by
    have := (total_iff h).2 h2
    omega
  unfold sat at h1
  omega

/-! ### where loops end -/
def setN (f : Nat → Nat) (k v : Nat) : Nat → Nat := fun i => if i = k then v else f i
/-- The loops that are open before the k-th instruction, the inmost first, and the ends so far. -/
def eSt (xs : List Ins) : Nat → List Nat × (Nat → Nat)
  | 0 => ([], fun _ => 0)
  | k + 1 => match xs[k]? with
    | none => eSt xs k
    | some x => if x.op = 3 then (k :: (eSt xs k).1, (eSt xs k).2) else if x.op = 4 then ((eSt xs k).1.tail, setN (eSt xs k).2 ((eSt xs k).1.headD 0) k) else eSt xs k
section
variable {xs : List Ins} {k : Nat} {x : Ins}
theorem eSt_loop (hx : xs[k]? = some x) (h3 : x.op = 3) : eSt xs (k + 1) = (k :: (eSt xs k).1, (eSt xs k).2) := by simp only [eSt, hx, if_pos h3]
theorem eSt_end (hx : xs[k]? = some x) (h4 : x.op = 4) : eSt xs (k + 1) = ((eSt xs k).1.tail, setN (eSt xs k).2 ((eSt xs k).1.headD 0) k) := by simp only [eSt, hx, if_neg (show ¬ x.op = 3 by omega), if_pos h4]
theorem eSt_plain (hx : xs[k]? = some x) (h3 : x.op ≠ 3) (h4 : x.op ≠ 4) : eSt xs (k + 1) = eSt xs k := by simp only [eSt, hx, if_neg h3, if_neg h4]
theorem eSt_past : ∀ d, eSt xs (xs.length + d) = eSt xs xs.length
  | 0 => rfl
  | d + 1 => by
    rw [← Nat.add_assoc]
    simp only [eSt, List.getElem?_eq_none_iff.2 (show xs.length ≤ xs.length + d by omega)]
    exact eSt_past d
theorem eSt_depth {m : Mc} (h : codeE m 0 xs = 0) : ∀ k, k ≤ xs.length → codeE m (eSt xs k).1.length (xs.drop k) = 0 := by
  intro k
  induction k with
  | zero => intro _; simpa [eSt] using h
  | succ k ih =>
    intro hk
    have hp : k < xs.length := by omega
    have hx := List.getElem?_eq_getElem hp
    have h1 := ih (by omega)
    rw [List.drop_eq_getElem_cons hp] at h1
    generalize xs[k] = x at *
    simp only [codeE] at h1
    have hi : insE m (eSt xs k).1.length x = 0 := by
      by_cases hi : insE m (eSt xs k).1.length x = 0
      · exact hi
      · rw [if_neg hi] at h1; exact absurd h1 hi
    rw [if_pos hi] at h1
    by_cases h3 : x.op = 3
    · rw [eSt_loop hx h3]
      simpa [dStep, h3] using h1
    by_cases h4 : x.op = 4
    · rw [eSt_end hx h4]
      simpa [dStep, h4] using h1
    · rw [eSt_plain hx h3 h4]
      simpa [dStep, h3, h4] using h1
theorem eSt_open {m : Mc} (h : codeE m 0 xs = 0) (hx : xs[k]? = some x) (h4 : x.op = 4) : ∃ j l, (eSt xs k).1 = j :: l := by
  obtain ⟨hp, ex⟩ := List.getElem?_eq_some_iff.1 hx
  have h1 := eSt_depth h k (by omega)
  rw [List.drop_eq_getElem_cons hp, ex] at h1
  simp only [codeE] at h1
  have hi : insE m (eSt xs k).1.length x = 0 := by
    by_cases hi : insE m (eSt xs k).1.length x = 0
    · exact hi
    · rw [if_neg hi] at h1; exact absurd h1 hi
  have := insE_op4 hi h4
  cases he : (eSt xs k).1 with
  | nil => rw [he] at this; simp at this
  | cons j l => exact ⟨j, l, rfl⟩
theorem eSt_lt : ∀ k, ∀ i ∈ (eSt xs k).1, i < k := by
  intro k
  induction k with
  | zero => intro i hi; simp [eSt] at hi
  | succ k ih =>
    intro i hi
    cases hx : xs[k]? with
    | none => simp only [eSt, hx] at hi; have := ih i hi; omega
    | some x =>
      by_cases h3 : x.op = 3
      · rw [eSt_loop hx h3] at hi
        rcases List.mem_cons.1 hi with rfl | hi
        · omega
        · have := ih i hi; omega
      by_cases h4 : x.op = 4
      · rw [eSt_end hx h4] at hi
        have := ih i (List.mem_of_mem_tail hi); omega
      · rw [eSt_plain hx h3 h4] at hi
        have := ih i hi; omega
theorem eSt_length : ∀ k, (eSt xs k).1.length ≤ k := by
  intro k
  induction k with
  | zero => simp [eSt]
  | succ k ih =>
    cases hx : xs[k]? with
    | none => simp only [eSt, hx]; omega
    | some x =>
      by_cases h3 : x.op = 3
      · rw [eSt_loop hx h3]; simp; omega
      by_cases h4 : x.op = 4
      · rw [eSt_end hx h4]; simp; omega
      · rw [eSt_plain hx h3 h4]; omega
end
theorem eSt_cnt {m : Mc} {xs : List Ins} : ∀ (f p D : Nat), xs.length ≤ p + f → codeE m D (xs.drop p) = 0 →
    codeE m D (xs.drop (cnt xs f p).2) = 0 ∧ (∀ y, xs[(cnt xs f p).2]? = some y → y.op = 4) ∧ (eSt xs (cnt xs f p).2).1 = (eSt xs p).1 ∧ (∀ i, i < p → (eSt xs (cnt xs f p).2).2 i = (eSt xs p).2 i) ∧
      (∀ i x, p ≤ i → i < (cnt xs f p).2 → xs[i]? = some x → x.op = 3 → (eSt xs (cnt xs f p).2).2 i = (cnt xs xs.length (i + 1)).2) := by
  intro f
  induction f with
  | zero =>
    intro p D hl hc
    exact ⟨hc, fun y hy => (by have := (List.getElem?_eq_some_iff.1 hy).1; simp only [cnt] at this; omega), rfl, fun i _ => rfl, fun i x h1 h2 => absurd h2 (by simp only [cnt]; omega)⟩
  | succ f ih =>
    intro p D hl hc
    cases hx : xs[p]? with
    | none =>
      have e : cnt xs (f + 1) p = (0, p) := by simp only [cnt, hx]
      rw [e]
      exact ⟨hc, (fun y hy => by rw [hx] at hy; cases hy), rfl, fun i _ => rfl, fun i x h1 h2 => absurd h2 (Nat.not_lt.2 h1)⟩
    | some x =>
      obtain ⟨hp, ex⟩ := List.getElem?_eq_some_iff.1 hx
      have hd : xs.drop p = x :: xs.drop (p + 1) := by rw [List.drop_eq_getElem_cons hp, ex]
      by_cases h4 : x.op = 4
      · rw [cnt_end hx h4]
        exact ⟨hc, (fun y hy => by rw [hx] at hy; cases hy; exact h4), rfl, fun i _ => rfl, fun i x h1 h2 => absurd h2 (Nat.not_lt.2 h1)⟩
      rw [hd] at hc
      simp only [codeE] at hc
      have hi : insE m D x = 0 := by
        by_cases hi : insE m D x = 0
        · exact hi
        · rw [if_neg hi] at hc; exact absurd hc hi
      rw [if_pos hi] at hc
      by_cases h3 : x.op = 3
      · have hD : dStep D x = D + 1 := by simp [dStep, h3]
        rw [hD] at hc
        obtain ⟨a1, a2, a3, a4, a5⟩ := ih (p + 1) (D + 1) (by omega) hc
        have hge := cnt_ge xs f (p + 1)
        have hro : (cnt xs f (p + 1)).2 = (cnt xs xs.length (p + 1)).2 := by rw [cnt_room (f := f) (g := xs.length) (by omega) (by omega)]
        rw [cnt_loop hx h3]
        simp only
        generalize (cnt xs f (p + 1)).2 = e1 at *
        cases hy : xs[e1]? with
        | none =>
          have : xs.drop e1 = [] := List.drop_eq_nil_of_le (List.getElem?_eq_none_iff.1 hy)
          rw [this] at a1
          simp [codeE] at a1
        | some y =>
          obtain ⟨hp1, ey⟩ := List.getElem?_eq_some_iff.1 hy
          have hd1 : xs.drop e1 = y :: xs.drop (e1 + 1) := by rw [List.drop_eq_getElem_cons hp1, ey]
          have hy4 := a2 y hy
          rw [hd1] at a1
          simp only [codeE] at a1
          have hiy : insE m (D + 1) y = 0 := by
            by_cases hi : insE m (D + 1) y = 0
            · exact hi
            · rw [if_neg hi] at a1; exact absurd a1 hi
          rw [if_pos hiy, show dStep (D + 1) y = D by simp [dStep, hy4]] at a1
          obtain ⟨c1, c2, c3, c4, c5⟩ := ih (e1 + 1) D (by omega) a1
          have hop : (eSt xs (e1 + 1)) = ((eSt xs p).1, setN (eSt xs e1).2 p e1) := by
            rw [eSt_end hy hy4, a3, eSt_loop hx h3]
            rfl
          rw [hop] at c3 c4
          refine ⟨c1, c2, c3, fun i hi => ?_, fun i z h1 h2 hz hz3 => ?_⟩
          · rw [c4 i (by omega)]
            simp only [setN, if_neg (show ¬ i = p by omega)]
            rw [a4 i (by omega), eSt_loop hx h3]
          · rcases Nat.lt_or_ge i (e1 + 1) with hlt | hge2
            · rw [c4 i hlt]
              by_cases hip : i = p
              · subst hip
                simp only [setN, if_pos]
                exact hro
              · simp only [setN, if_neg hip]
                by_cases hie : i = e1
                · subst hie
                  rw [hy] at hz
                  cases hz
                  omega
                · exact a5 i z (by omega) (by omega) hz hz3
            · exact c5 i z hge2 h2 hz hz3
      · have hD : dStep D x = D := by simp [dStep, h3, h4]
        rw [hD] at hc
        obtain ⟨a1, a2, a3, a4, a5⟩ := ih (p + 1) D (by omega) hc
        rw [cnt_plain hx h3 h4]
        simp only
        rw [eSt_plain hx h3 h4] at a3 a4
        refine ⟨a1, a2, a3, fun i hi => a4 i (by omega), fun i z h1 h2 hz hz3 => ?_⟩
        by_cases hip : i = p
        · subst hip
          rw [hx] at hz
          cases hz
          exact absurd hz3 h3
        · exact a5 i z (by omega) h2 hz hz3
/-- The ends of the loops of checked code. -/
theorem ends_cnt {m : Mc} {xs : List Ins} (h : codeE m 0 xs = 0) {i : Nat} {x : Ins} (hx : xs[i]? = some x) (h3 : x.op = 3) {f : Nat} (hf : xs.length ≤ i + 1 + f) : (eSt xs xs.length).2 i = (cnt xs f (i + 1)).2 := by
  obtain ⟨_, _, _, _, a5⟩ := eSt_cnt xs.length 0 0 (by omega) (show codeE m 0 (xs.drop 0) = 0 by simpa using h)
  have hp := (List.getElem?_eq_some_iff.1 hx).1
  have h1 := cnt_all h
  have h2 := a5 i x (by omega) (by omega) hx h3
  obtain ⟨d, hd⟩ := Nat.exists_eq_add_of_le h1
  rw [hd, eSt_past] at h2
  rw [h2, cnt_room (f := f) (g := xs.length) hf (by omega)]
/-- A loop's end lies in the code, and is an end. -/
theorem ends_in {m : Mc} {xs : List Ins} (h : codeE m 0 xs = 0) {i : Nat} {x : Ins} (hx : xs[i]? = some x) (h3 : x.op = 3) {f : Nat} (hf : xs.length ≤ i + 1 + f) : ∃ y, xs[(cnt xs f (i + 1)).2]? = some y ∧ y.op = 4 := by
  obtain ⟨hp, ex⟩ := List.getElem?_eq_some_iff.1 hx
  have h1 := eSt_depth h (i + 1) (by omega)
  rw [eSt_loop hx h3] at h1
  obtain ⟨a1, a2, _⟩ := eSt_cnt f (i + 1) _ hf h1
  cases hy : xs[(cnt xs f (i + 1)).2]? with
  | none =>
    rw [List.drop_eq_nil_of_le (List.getElem?_eq_none_iff.1 hy)] at a1
    simp [codeE] at a1
  | some y => exact ⟨y, rfl, a2 y hy⟩
end Go.Proofs.Ytedabpldigcffaa
namespace Go.Proofs.Ytedabpldigcffaa
open Go.RowKit
set_option linter.unusedSimpArgs false
set_option linter.unusedVariables false

/-- The cycles of an instruction. -/
def priceS (lanes : Int) (x : Ins) : Int :=
  if x.op = 2 ∨ x.op = 11 then (if x.k = 6 then 3 else if x.k = 14 then 8 else 1)
  else if x.op = 4 then 0
  else if x.op = 5 ∨ x.op = 6 then 20
  else if x.op = 7 ∨ x.op = 8 ∨ x.op = 9 ∨ x.op = 10 ∨ x.op = 15 ∨ x.op = 18 then 2
  else if x.op = 14 then lanes else 1
theorem priceS_bound {lanes : Int} (h : 0 ≤ lanes ∧ lanes ≤ 8) (x : Ins) : 0 ≤ priceS lanes x ∧ priceS lanes x ≤ 20 := by
  unfold priceS
  repeat' split
  all_goals omega
def putI (f : Int → Int) (k v : Int) : Int → Int := fun j => if j = k then v else f j
theorem putI_same (f : Int → Int) (k v : Int) : putI f k v k = v := if_pos rfl
theorem putI_ne (f : Int → Int) {k j : Int} (v : Int) (h : j ≠ k) : putI f k v j = f j := if_neg h

/-- A clock: the cycles so far, and when queues are ready. -/
structure Ck where
  cyc : Int
  rd : Int → Int
/-- The simulator's clock. -/
def ckStep (lanes : Int) (x : Ins) (s : Ck) : Ck :=
  if x.op = 18 then ⟨max s.cyc (s.rd x.d) + priceS lanes x, putI s.rd x.d (max s.cyc (s.rd x.d) + priceS lanes x + 8 + x.m)⟩
  else if x.op = 19 then ⟨max (s.cyc + priceS lanes x) (s.rd x.d), s.rd⟩
  else ⟨s.cyc + priceS lanes x, s.rd⟩
/-- The specification's. -/
def rfStep (lanes : Int) (x : Ins) (s : Ck) : Ck :=
  if x.op = 18 then ⟨max s.cyc (s.rd x.d) + priceS lanes x, putI (putI s.rd x.d 0) x.d (max s.cyc (s.rd x.d) + priceS lanes x + 8 + x.m)⟩
  else if x.op = 19 then ⟨max (s.cyc + priceS lanes x) (s.rd x.d), putI s.rd x.d 0⟩
  else ⟨s.cyc + priceS lanes x, s.rd⟩
def ckTick (s : Ck) : Ck := ⟨s.cyc + 1, s.rd⟩
/-- No number of a clock is greater. -/
def CkB (c : Int) (s : Ck) : Prop := 0 ≤ s.cyc ∧ s.cyc ≤ c ∧ ∀ d, 0 ≤ s.rd d ∧ s.rd d ≤ c
section
variable {lanes : Int} {x : Ins} {c : Int} {s t : Ck}
theorem CkB.tick (h : CkB c s) : CkB (c + 5000) (ckTick s) := by
  obtain ⟨h1, h2, h3⟩ := h
  exact ⟨by simp only [ckTick]; omega, by simp only [ckTick]; omega, fun d => by have := h3 d; simp only [ckTick]; omega⟩
theorem CkB.ck {m : Mc} (hl : 0 ≤ m.lanes ∧ m.lanes ≤ 8) (hb : m.bank ≤ 4096) (hv : VI m x) (h : CkB c s) : CkB (c + 5000) (ckStep m.lanes x s) := by
  obtain ⟨h1, h2, h3⟩ := h
  have hp := priceS_bound hl x
  have hd := h3 x.d
  unfold ckStep
  by_cases h18 : x.op = 18
  · have hk := hv.ks h18
    rw [if_pos h18]
    refine ⟨by simp only; omega, by simp only; omega, fun d => ?_⟩
    have := h3 d
    simp only [putI]
    split <;> omega
  rw [if_neg h18]
  by_cases h19 : x.op = 19
  · rw [if_pos h19]
    exact ⟨by simp only; omega, by simp only; omega, fun d => by have := h3 d; simp only; omega⟩
  · rw [if_neg h19]
    exact ⟨by simp only; omega, by simp only; omega, fun d => by have := h3 d; simp only; omega⟩
theorem CkB.rf {m : Mc} (hl : 0 ≤ m.lanes ∧ m.lanes ≤ 8) (hb : m.bank ≤ 4096) (hv : VI m x) (h : CkB c s) : CkB (c + 5000) (rfStep m.lanes x s) := by
  obtain ⟨h1, h2, h3⟩ := h
  have hp := priceS_bound hl x
  have hd := h3 x.d
  unfold rfStep
  by_cases h18 : x.op = 18
  · have hk := hv.ks h18
    rw [if_pos h18]
    refine ⟨by simp only; omega, by simp only; omega, fun d => ?_⟩
    have := h3 d
    simp only [putI]
    split <;> (try split) <;> omega
  rw [if_neg h18]
  by_cases h19 : x.op = 19
  · rw [if_pos h19]
    refine ⟨by simp only; omega, by simp only; omega, fun d => ?_⟩
    have := h3 d
    simp only [putI]
    split <;> omega
  · rw [if_neg h19]
    exact ⟨by simp only; omega, by simp only; omega, fun d => by have := h3 d; simp only; omega⟩
/-- The two clocks tell the same. -/
def CkR (s t : Ck) : Prop := s.cyc = t.cyc ∧ 0 ≤ s.cyc ∧ ∀ d, 0 ≤ s.rd d ∧ (s.rd d = t.rd d ∨ (t.rd d = 0 ∧ s.rd d ≤ s.cyc))
theorem CkR.tick (h : CkR s t) : CkR (ckTick s) (ckTick t) := by
  obtain ⟨h1, h2, h3⟩ := h
  refine ⟨by simp only [ckTick]; omega, by simp only [ckTick]; omega, fun d => ?_⟩
  have := h3 d
  simp only [ckTick]
  omega
theorem CkR.step {m : Mc} (hl : 0 ≤ m.lanes ∧ m.lanes ≤ 8) (hv : VI m x) (h : CkR s t) : CkR (ckStep m.lanes x s) (rfStep m.lanes x t) := by
  obtain ⟨h1, h2, h3⟩ := h
  have hp := priceS_bound hl x
  have hd := h3 x.d
  have hmax : max s.cyc (s.rd x.d) = max t.cyc (t.rd x.d) := by omega
  unfold ckStep rfStep
  by_cases h18 : x.op = 18
  · have hk := hv.ks h18
    rw [if_pos h18, if_pos h18, ← hmax]
    refine ⟨rfl, by simp only; omega, fun d => ?_⟩
    have := h3 d
    simp only [putI]
    by_cases hdd : d = x.d
    · rw [if_pos hdd, if_pos hdd]; omega
    · rw [if_neg hdd, if_neg hdd, if_neg hdd]; omega
  rw [if_neg h18, if_neg h18]
  by_cases h19 : x.op = 19
  · rw [if_pos h19, if_pos h19]
    refine ⟨by simp only; omega, by simp only; omega, fun d => ?_⟩
    have := h3 d
    simp only [putI]
    by_cases hdd : d = x.d
    · subst hdd; rw [if_pos rfl]; omega
    · rw [if_neg hdd]; omega
  · rw [if_neg h19, if_neg h19]
    refine ⟨by simp only; omega, by simp only; omega, fun d => ?_⟩
    have := h3 d
    simp only
    omega
end
/-- What the queues 0 to n - 1 are ready at, as a list. -/
def rdL (rd : Int → Int) (n : Nat) : List Int := (List.range n).map fun i => rd (i : Nat)
theorem rdL_length (rd : Int → Int) (n : Nat) : (rdL rd n).length = n := by simp [rdL]
theorem rdL_get (rd : Int → Int) {n i : Nat} (h : i < n) : (rdL rd n)[i]? = some (rd (i : Nat)) := by simp [rdL, h]
theorem rdL_put (rd : Int → Int) (n i : Nat) (v : Int) : (Nums (rdL rd n)).setIfInBounds i (.int .i64 v) = Nums (rdL (putI rd (i : Nat) v) n) := by
  unfold rdL Nums putI
  apply Array.ext
  · simp
  · intro j h1 h2
    by_cases hk : i = j
    · subst hk; simp
    · have h3 : ¬ (j : Int) = (i : Int) := by omega
      simp [hk, h3]
/-- All queues waited for. -/
def waitAll (s : Ck) : Nat → Ck
  | 0 => s
  | n + 1 => ⟨max (waitAll s n).cyc ((waitAll s n).rd (n : Nat)), putI (waitAll s n).rd (n : Nat) 0⟩
theorem waitAll_rd (s : Ck) (d : Int) : ∀ n : Nat, (n : Int) ≤ d → (waitAll s n).rd d = s.rd d
  | 0, _ => rfl
  | n + 1, h => by
    simp only [waitAll]
    rw [putI_ne _ _ (by omega)]
    exact waitAll_rd s d n (by omega)
theorem waitAll_bound {c : Int} {s : Ck} (h : CkB c s) : ∀ n, CkB c (waitAll s n)
  | 0 => h
  | n + 1 => by
    obtain ⟨h1, h2, h3⟩ := waitAll_bound h n
    have := h3 (n : Nat)
    refine ⟨by simp only [waitAll]; omega, by simp only [waitAll]; omega, fun d => ?_⟩
    have := h3 d
    simp only [waitAll, putI]
    split <;> omega
/-- A list's greatest number, of a number and the list. -/
def topL (a : Int) (l : List Int) : Int := l.foldl max a
theorem topL_snoc (a : Int) (l : List Int) (x : Int) : topL a (l ++ [x]) = max (topL a l) x := by simp [topL]
theorem waitAll_cyc {s t : Ck} (h : CkR s t) : ∀ n, (waitAll t n).cyc = topL s.cyc (rdL s.rd n) ∧ s.cyc ≤ (waitAll t n).cyc
  | 0 => ⟨by simp [waitAll, rdL, topL, h.1], by have := h.1; simp only [waitAll]; omega⟩
  | n + 1 => by
    obtain ⟨h1, h4⟩ := waitAll_cyc h n
    have h2 : rdL s.rd (n + 1) = rdL s.rd n ++ [s.rd (n : Nat)] := by simp [rdL, List.range_succ]
    have h3 := h.2.2 (n : Nat)
    rw [h2, topL_snoc, ← h1]
    simp only [waitAll]
    rw [waitAll_rd _ _ _ (Int.le_refl _)]
    omega
theorem topL_max : ∀ (l : List Int) (a b : Int), topL (max a b) l = max a (topL b l)
  | [], _, _ => rfl
  | x :: l, a, b => by
    show topL (max (max a b) x) l = max a (topL (max b x) l)
    rw [Int.max_assoc, topL_max l]

/-- A clock at the start, and at the end. -/
def ck0 : Ck := ⟨0, fun _ => 0⟩
def ckEnd (m : Mc) (xs : List Ins) : Ck := runS (ckStep m.lanes) ckTick xs xs.length 0 ck0
def rfEnd (m : Mc) (xs : List Ins) : Ck := runS (rfStep m.lanes) ckTick xs xs.length 0 ck0
/-- What is predicted. -/
def predS (m : Mc) (xs : List Ins) : Int := topL (ckEnd m xs).cyc (rdL (ckEnd m xs).rd m.queues.toNat)
theorem pred_eq {m : Mc} (hm : m.okB = true) {xs : List Ins} (h : codeE m 0 xs = 0) : (waitAll (rfEnd m xs) m.queues.toNat).cyc = predS m xs := by
  have hmc := mc_ok hm
  have hv := codeE_valid hm h
  have hr : CkR (ckEnd m xs) (rfEnd m xs) := runS_rel (fun x hx s t hr => hr.step (by omega) (hv x hx)) (fun s t hr => hr.tick) _ _ _ _ ⟨rfl, Int.le_refl _, fun d => ⟨Int.le_refl _, .inl rfl⟩⟩
  exact (waitAll_cyc hr _).1
theorem ck_start (c : Int) (h : 0 ≤ c) : CkB c ck0 := ⟨Int.le_refl _, h, fun _ => ⟨Int.le_refl _, h⟩⟩
/-- Where a clock stands within code: with room f at place q, as far as T; what is still to come fits under a bound. -/
structure RunSt (step : Ins → Ck → Ck) (xs : List Ins) (T : Ck) (f q : Nat) (s : Ck) : Prop where
  fuel : xs.length ≤ q + f
  run : runS step ckTick xs f q s = T
  bound : ∃ c, CkB c s ∧ c + 5000 * (cnt xs f q).1 ≤ 1000000000000
section
variable {step : Ins → Ck → Ck} {xs : List Ins} {T : Ck} {f q : Nat} {s : Ck} {x : Ins}
theorem RunSt.small (hm : loopsOk xs) (h : RunSt step xs T f q s) : CkB 1000000000000 s := by
  obtain ⟨c, ⟨h1, h2, h3⟩, h4⟩ := h.bound
  have := (cnt_nonneg hm f q).1
  exact ⟨h1, by omega, fun d => by have := h3 d; omega⟩
theorem RunSt.end (h : RunSt step xs T f q s) (hx : xs[q]? = some x) (h4 : x.op = 4) : s = T := by rw [← h.run, runS_end hx h4]
theorem RunSt.past (h : RunSt step xs T f q s) (hq : xs.length ≤ q) : s = T := by rw [← h.run, runS_past hq]
theorem RunSt.plain (hs : ∀ x ∈ xs, ∀ c s, CkB c s → CkB (c + 5000) (step x s)) (h : RunSt step xs T (f + 1) q s) (hx : xs[q]? = some x) (h3 : x.op ≠ 3) (h4 : x.op ≠ 4) : RunSt step xs T f (q + 1) (step x s) := by
  obtain ⟨c, h1, h2⟩ := h.bound
  refine ⟨by have := h.fuel; omega, by rw [← h.run, runS_plain hx h3 h4], c + 5000, hs x (List.mem_of_getElem? hx) c s h1, ?_⟩
  rw [cnt_plain hx h3 h4] at h2
  simp only at h2
  omega
theorem RunSt.turn (hm : loopsOk xs) (hs : ∀ x ∈ xs, ∀ c s, CkB c s → CkB (c + 5000) (step x s)) (h : RunSt step xs T (f + 1) q s) (hx : xs[q]? = some x) (h3 : x.op = 3) (k : Nat) (hk : (k : Int) < x.m) :
    RunSt step xs (iterS (fun s => runS step ckTick xs f (q + 1) (ckTick s)) (k + 1) (step x s)) f (q + 1) (ckTick (iterS (fun s => runS step ckTick xs f (q + 1) (ckTick s)) k (step x s))) := by
  obtain ⟨c, h1, h2⟩ := h.bound
  have hb := iterS_bound (B := CkB) (e := 5000 * ((cnt xs f (q + 1)).1 + 1)) (f := fun s => runS step ckTick xs f (q + 1) (ckTick s)) (fun c s hb => by
    have := runS_bound (K := 5000) hm hs (fun c s hb => hb.tick) f (q + 1) _ _ (CkB.tick hb)
    rw [show c + 5000 * ((cnt xs f (q + 1)).1 + 1) = c + 5000 + 5000 * (cnt xs f (q + 1)).1 by omega]
    exact this) k _ _ (hs x (List.mem_of_getElem? hx) c s h1)
  refine ⟨by have := h.fuel; omega, rfl, _, hb.tick, ?_⟩
  rw [cnt_loop hx h3] at h2
  have hn := (cnt_nonneg hm f (q + 1)).1
  have hr := (cnt_nonneg hm f ((cnt xs f (q + 1)).2 + 1)).1
  simp only at h2
  generalize (cnt xs f ((cnt xs f (q + 1)).2 + 1)).1 = r at *
  generalize (cnt xs f (q + 1)).1 = n at *
  have hle : ((k : Int) + 1) * (n + 1) ≤ x.m * (n + 1) := Int.mul_le_mul_of_nonneg_right (by omega) (by omega)
  have e1 : (k : Int) * (5000 * (n + 1)) = 5000 * ((k : Int) * (n + 1)) := Int.mul_left_comm _ _ _
  rw [Int.add_mul, Int.one_mul] at hle
  rw [e1]
  generalize (k : Int) * (n + 1) = u at *
  generalize x.m * (n + 1) = v at *
  omega
theorem RunSt.loop (hm : loopsOk xs) (hs : ∀ x ∈ xs, ∀ c s, CkB c s → CkB (c + 5000) (step x s)) (h : RunSt step xs T (f + 1) q s) (hx : xs[q]? = some x) (h3 : x.op = 3) :
    RunSt step xs T f ((cnt xs f (q + 1)).2 + 1) (iterS (fun s => runS step ckTick xs f (q + 1) (ckTick s)) x.m.toNat (step x s)) := by
  obtain ⟨c, h1, h2⟩ := h.bound
  have hb := iterS_bound (B := CkB) (e := 5000 * ((cnt xs f (q + 1)).1 + 1)) (f := fun s => runS step ckTick xs f (q + 1) (ckTick s)) (fun c s hb => by
    have := runS_bound (K := 5000) hm hs (fun c s hb => hb.tick) f (q + 1) _ _ (CkB.tick hb)
    rw [show c + 5000 * ((cnt xs f (q + 1)).1 + 1) = c + 5000 + 5000 * (cnt xs f (q + 1)).1 by omega]
    exact this) x.m.toNat _ _ (hs x (List.mem_of_getElem? hx) c s h1)
  refine ⟨by have := h.fuel; have := cnt_ge xs f (q + 1); omega, by rw [← h.run, runS_loop hx h3], _, hb, ?_⟩
  rw [cnt_loop hx h3] at h2
  simp only at h2
  have h0 := (hm x (List.mem_of_getElem? hx) h3).1
  rw [Int.toNat_of_nonneg h0, Int.mul_left_comm]
  generalize (cnt xs f ((cnt xs f (q + 1)).2 + 1)).1 = r at *
  generalize x.m * ((cnt xs f (q + 1)).1 + 1) = v at *
  omega
end
end Go.Proofs.Ytedabpldigcffaa
namespace Go.Proofs.Ytedabpldigcffaa
open Go.RowKit
set_option linter.unusedSimpArgs false
set_option linter.unusedVariables false

theorem op_19 {x : Int} (h : 1 ≤ x ∧ x ≤ 19) : x = 1 ∨ x = 2 ∨ x = 3 ∨ x = 4 ∨ x = 5 ∨ x = 6 ∨ x = 7 ∨ x = 8 ∨ x = 9 ∨ x = 10 ∨ x = 11 ∨ x = 12 ∨ x = 13 ∨ x = 14 ∨ x = 15 ∨ x = 16 ∨ x = 17 ∨ x = 18 ∨ x = 19 := by omega

set_option maxHeartbeats 2000000 in
set_option maxRecDepth 100000 in
theorem price_any (m : Mc) (x : Ins) (w : World) (h : 1 ≤ x.op ∧ x.op ≤ 19) :
    Calls Try.prog 102 #[.agg m.cells.toArray, .agg x.cells.toArray] w fun e w' => e = .returned (.int .i64 (priceS m.lanes x)) ∧ Ext [] w w' := by
  obtain ⟨m0, m1, m2, m3, m4⟩ := m
  obtain ⟨o, k, d, a, b, c, p, n, mm⟩ := x
  simp only [Mc.cells, Ins.cells]
  have hk : (k = 6) ∨ (k = 14) ∨ ((k == 6) = false ∧ (k == 14) = false) := by simp; omega
  rcases op_19 h with h | h | h | h | h | h | h | h | h | h | h | h | h | h | h | h | h | h | h
  all_goals
    simp only at h
    subst h
  case inr.inl =>
    rcases hk with rfl | rfl | ⟨h1, h2⟩
    all_goals
      go_enter Try.func102, Try.ntmps102
      go_wp2_with fail
      go_ret
    · exact ⟨ret_int (by simp [priceS]), ((Ext.refl _ _).alloc _).alloc _⟩
    · exact ⟨ret_int (by simp [priceS]), ((Ext.refl _ _).alloc _).alloc _⟩
    · simp only [beq_eq_false_iff_ne] at h1 h2
      exact ⟨ret_int (by simp [priceS, h1, h2]), ((Ext.refl _ _).alloc _).alloc _⟩
  case inr.inr.inr.inr.inr.inr.inr.inr.inr.inr.inl =>
    rcases hk with rfl | rfl | ⟨h1, h2⟩
    all_goals
      go_enter Try.func102, Try.ntmps102
      go_wp2_with fail
      go_ret
    · exact ⟨ret_int (by simp [priceS]), ((Ext.refl _ _).alloc _).alloc _⟩
    · exact ⟨ret_int (by simp [priceS]), ((Ext.refl _ _).alloc _).alloc _⟩
    · simp only [beq_eq_false_iff_ne] at h1 h2
      exact ⟨ret_int (by simp [priceS, h1, h2]), ((Ext.refl _ _).alloc _).alloc _⟩
  all_goals
    clear hk
    go_enter Try.func102, Try.ntmps102
    go_wp2_with fail
    go_ret
    exact ⟨ret_int (by simp [priceS]), ((Ext.refl _ _).alloc _).alloc _⟩

set_option maxHeartbeats 2000000 in
set_option maxRecDepth 100000 in
theorem cycles_any (m : Mc) (x : Ins) (w : World) (h : 1 ≤ x.op ∧ x.op ≤ 19) :
    Calls Try.prog 84 #[.agg m.cells.toArray, .agg x.cells.toArray] w fun e w' => e = .returned (.int .i64 (priceS m.lanes x)) ∧ Ext [] w w' := by
  obtain ⟨m0, m1, m2, m3, m4⟩ := m
  obtain ⟨o, k, d, a, b, c, p, n, mm⟩ := x
  simp only [Mc.cells, Ins.cells]
  have hk : (k = 6) ∨ (k = 14) ∨ ((k == 6) = false ∧ (k == 14) = false) := by simp; omega
  rcases op_19 h with h | h | h | h | h | h | h | h | h | h | h | h | h | h | h | h | h | h | h
  all_goals
    simp only at h
    subst h
  case inr.inl =>
    rcases hk with rfl | rfl | ⟨h1, h2⟩
    all_goals
      go_enter Try.func84, Try.ntmps84
      go_wp2_with fail
      go_ret
    · exact ⟨ret_int (by simp [priceS]), ((Ext.refl _ _).alloc _).alloc _⟩
    · exact ⟨ret_int (by simp [priceS]), ((Ext.refl _ _).alloc _).alloc _⟩
    · simp only [beq_eq_false_iff_ne] at h1 h2
      exact ⟨ret_int (by simp [priceS, h1, h2]), ((Ext.refl _ _).alloc _).alloc _⟩
  case inr.inr.inr.inr.inr.inr.inr.inr.inr.inr.inl =>
    rcases hk with rfl | rfl | ⟨h1, h2⟩
    all_goals
      go_enter Try.func84, Try.ntmps84
      go_wp2_with fail
      go_ret
    · exact ⟨ret_int (by simp [priceS]), ((Ext.refl _ _).alloc _).alloc _⟩
    · exact ⟨ret_int (by simp [priceS]), ((Ext.refl _ _).alloc _).alloc _⟩
    · simp only [beq_eq_false_iff_ne] at h1 h2
      exact ⟨ret_int (by simp [priceS, h1, h2]), ((Ext.refl _ _).alloc _).alloc _⟩
  all_goals
    clear hk
    go_enter Try.func84, Try.ntmps84
    go_wp2_with fail
    go_ret
    exact ⟨ret_int (by simp [priceS]), ((Ext.refl _ _).alloc _).alloc _⟩

/-! ### a map of ints -/
theorem wf64 {a : Int} (h : -9223372036854775808 ≤ a ∧ a ≤ 9223372036854775807) : (Lit.int .i64 a).wf = true := by
  have h1 : IntKind.i64.min = -9223372036854775808 := by decide
  have h2 : IntKind.i64.max = 9223372036854775807 := by decide
  simp [Lit.wf, h1, h2, h]
def hasN (D : DataW Unit) (q : Int) : Nat := if Maps.has D (.int .i64 q) then 1 else 0
theorem hasN_le (D : DataW Unit) (q : Int) : hasN D q ≤ 1 := by unfold hasN; split <;> omega
/-- Block b is a map whose keys are among 0 to 3, and whose ints are f's (0 for a key that it lacks). -/
def IMap (w : World) (b : Nat) (f : Int → Int) : Prop := ∃ D : DataW Unit, w.ownsMap Try.prog 3 (plainElem Try.prog 3) b 4 D ∧ Maps.size D = hasN D 0 + hasN D 1 + hasN D 2 + hasN D 3 ∧ ∀ q, D.atKey (.int .i64 q) (.lit (.int .i64 0)) = .lit (.int .i64 (f q))
section
variable {w w' : World} {b : Nat} {f : Int → Int}
theorem ownsMap_size {P : Program} {k : TypeId} {R : Value → Option (DataW Unit × List MemPlace)} {n m : Nat} {D : DataW Unit} (h : w.ownsMap P k R b n D) (hm : Maps.size D ≤ m) : w.ownsMap P k R b m D := by
  obtain ⟨es, clock, hb, F, hs, rfl⟩ := h
  refine ⟨es, clock, hb, F, ?_, rfl⟩
  rw [Maps.size_eq, length_sorted] at hm
  simpa using hm
theorem IMap.made (w : World) : IMap (w.alloc (.map #[] 0)) w.heap.size (fun _ => 0) := ⟨_, (World.ownsMap_made _ _ _ _).mono (by omega), rfl, fun q => rfl⟩
theorem IMap.lt (h : IMap w b f) : b < w.heap.size := by obtain ⟨D, h, _⟩ := h; exact h.lt
theorem IMap.ext {S : List Nat} (h : IMap w b f) (hE : Ext S w w') (hb : b ∉ S) : IMap w' b f := by
  have hlt := h.lt
  obtain ⟨D, ⟨es, clock, h1, h2⟩, h3⟩ := h
  exact ⟨D, ⟨es, clock, (hE.block b hlt hb).trans h1, h2⟩, h3⟩
theorem IMap.look (h : IMap w b f) (q : Int) (hq : (Lit.int .i64 q).wf = true) : (Instr.lookup 97 (.map (some b)) (.int .i64 q) false).run Try.prog w = .ok (.int .i64 (f q)) w := by
  obtain ⟨D, h1, h2, h3⟩ := h
  obtain ⟨c, hr, hat, _⟩ := h1.lookup_int (t := 97) (Maps.int_keyed Try.underlying3) Try.underlying97 Try.underlying3 (by kernel_rfl) (Maps.keyOf_int_mk Try.underlying3 hq)
  rw [h3 q] at hat
  cases hat
  exact hr
theorem hasN_other {D D' : DataW Unit} {q j : Int} (hD : ∀ k', k' ≠ Lit.int .i64 q → Maps.has D' k' = Maps.has D k') (hj : j ≠ q) : hasN D' j = hasN D j := by
  unfold hasN
  rw [hD _ (fun hh => hj (by cases hh; rfl))]
theorem IMap.store (h : IMap w b f) (q v : Int) (hq : 0 ≤ q ∧ q ≤ 3) (hv : (Lit.int .i64 v).wf = true) :
    ∃ w', (Instr.mapUpdate 97 (.map (some b)) (.int .i64 q) (.int .i64 v)).run Try.prog w = .ok () w' ∧ IMap w' b (putI f q v) ∧ Ext [b] w w' := by
  obtain ⟨D, h1, h2, h3⟩ := h
  have K : Maps.Keyed Try.prog 3 := Maps.int_keyed Try.underlying3
  have hk := Maps.keyOf_int_mk (P := Try.prog) Try.underlying3 (wf64 (a := q) (by omega))
  obtain ⟨w', hr, h4, h5⟩ := h1.update (t := 97) K Try.underlying97 (by unfold maxLen; omega) hk (plainElem_int Try.underlying3 hv)
  have hsz := Maps.size_put (k := .int .i64 q) (h1.tidy K) (.lit (.int .i64 v))
  have hs : hasN (D.put (.int .i64 q) (.lit (.int .i64 v))) q = 1 := by unfold hasN; rw [Maps.has_put_same h1.isMap (K.key hk)]; rfl
  have ho := fun (j : Int) (hj : j ≠ q) => hasN_other (D := D) (D' := D.put (.int .i64 q) (.lit (.int .i64 v))) (fun k' hk' => Maps.has_put_other hk' _) hj
  have hc : Maps.size (D.put (.int .i64 q) (.lit (.int .i64 v))) = hasN D q * 0 + (if Maps.has D (.int .i64 q) then Maps.size D else Maps.size D + 1) := by rw [hsz]; omega
  have hb : (if Maps.has D (.int .i64 q) then Maps.size D else Maps.size D + 1) + hasN D q = Maps.size D + 1 := by unfold hasN; split <;> omega
  have hnew : Maps.size (D.put (.int .i64 q) (.lit (.int .i64 v))) = hasN (D.put (.int .i64 q) (.lit (.int .i64 v))) 0 + hasN (D.put (.int .i64 q) (.lit (.int .i64 v))) 1 + hasN (D.put (.int .i64 q) (.lit (.int .i64 v))) 2 + hasN (D.put (.int .i64 q) (.lit (.int .i64 v))) 3 := by
    have hq4 : q = 0 ∨ q = 1 ∨ q = 2 ∨ q = 3 := by omega
    rcases hq4 with rfl | rfl | rfl | rfl
    · have a1 := ho 1 (by omega); have a2 := ho 2 (by omega); have a3 := ho 3 (by omega); omega
    · have a1 := ho 0 (by omega); have a2 := ho 2 (by omega); have a3 := ho 3 (by omega); omega
    · have a1 := ho 0 (by omega); have a2 := ho 1 (by omega); have a3 := ho 3 (by omega); omega
    · have a1 := ho 0 (by omega); have a2 := ho 1 (by omega); have a3 := ho 2 (by omega); omega
  refine ⟨w', hr, ⟨_, ownsMap_size h4 ?_, hnew, fun j => ?_⟩, (Ext.refl [b] w).grown h5 (fun k hk => .inl (by cases hk; simp))⟩
  · rw [hnew]
    have b0 := hasN_le (D.put (.int .i64 q) (.lit (.int .i64 v))) 0
    have b1 := hasN_le (D.put (.int .i64 q) (.lit (.int .i64 v))) 1
    have b2 := hasN_le (D.put (.int .i64 q) (.lit (.int .i64 v))) 2
    have b3 := hasN_le (D.put (.int .i64 q) (.lit (.int .i64 v))) 3
    omega
  · by_cases hj : j = q
    · subst hj
      rw [putI_same]
      exact Maps.atKey_put_same h1.isMap (K.key hk) _ _
    · rw [putI_ne _ _ hj, Maps.atKey_put_other (fun hh => hj (by cases hh; rfl)), h3]
theorem IMap.drop (h : IMap w b f) (q : Int) (hq : 0 ≤ q ∧ q ≤ 3) (ty : TypeId) :
    ∃ w', (Builtin.delete_ #[97, 3] ty #[.map (some b), .int .i64 q]).run Try.prog w = .ok (.tuple #[]) w' ∧ IMap w' b (putI f q 0) ∧ Ext [b] w w' := by
  obtain ⟨D, h1, h2, h3⟩ := h
  have K : Maps.Keyed Try.prog 3 := Maps.int_keyed Try.underlying3
  have hk := Maps.keyOf_int_mk (P := Try.prog) Try.underlying3 (wf64 (a := q) (by omega))
  obtain ⟨w', hr, h4, h5⟩ := h1.drop (t := 97) K Try.underlying97 hk ty
  have hsz := Maps.size_del (k := .int .i64 q) (h1.tidy K)
  have hs : hasN (D.del (.int .i64 q)) q = 0 := by unfold hasN; rw [Maps.has_del_same]; rfl
  have ho := fun (j : Int) (hj : j ≠ q) => hasN_other (D := D) (D' := D.del (.int .i64 q)) (fun k' hk' => Maps.has_del_other hk') hj
  have hb : (if Maps.has D (.int .i64 q) then 1 else 0) = hasN D q := rfl
  rw [hb] at hsz
  have hnew : Maps.size (D.del (.int .i64 q)) = hasN (D.del (.int .i64 q)) 0 + hasN (D.del (.int .i64 q)) 1 + hasN (D.del (.int .i64 q)) 2 + hasN (D.del (.int .i64 q)) 3 := by
    have hq4 : q = 0 ∨ q = 1 ∨ q = 2 ∨ q = 3 := by omega
    rcases hq4 with rfl | rfl | rfl | rfl
    · have a1 := ho 1 (by omega); have a2 := ho 2 (by omega); have a3 := ho 3 (by omega); omega
    · have a1 := ho 0 (by omega); have a2 := ho 2 (by omega); have a3 := ho 3 (by omega); omega
    · have a1 := ho 0 (by omega); have a2 := ho 1 (by omega); have a3 := ho 3 (by omega); omega
    · have a1 := ho 0 (by omega); have a2 := ho 1 (by omega); have a3 := ho 2 (by omega); omega
  refine ⟨w', hr, ⟨_, h4, hnew, fun j => ?_⟩, (Ext.refl [b] w).grown h5.grown (fun k hk => .inl (by cases hk; simp))⟩
  by_cases hj : j = q
  · subst hj
    rw [putI_same, Maps.atKey_del_same]
  · rw [putI_ne _ _ hj, Maps.atKey_del_other (fun hh => hj (by cases hh; rfl)), h3]
end
section
variable (w : World) {ops : Array Oper} {rest : List Oper} {o : Oper} {a : Act} {Q : Exit → Act → World → Prop}
/-- A store into such a map, for the walk. -/
theorem wpList_imap_store (hg : o.guard = none) (m x v : Operand) (hop : o.op = Op.mapUpdate 97 m x v) (b : Nat) (f : Int → Int) (hm : a.eval m = .map (some b)) (h : IMap w b f) (q y : Int) (hx : a.eval x = .int .i64 q) (hv : a.eval v = .int .i64 y)
    (hq : 0 ≤ q ∧ q ≤ 3) (hy : (Lit.int .i64 y).wf = true) (hK : ∀ w', IMap w' b (putI f q y) → Ext [b] w w' → wpList Try.prog ops Q rest (a.put o.dst undef) w') : wpList Try.prog ops Q (o :: rest) a w := by
  refine wpList_plain hg fun K' hK' => ?_
  obtain ⟨w', hrun, r1, r2⟩ := h.store q y hq hy
  unfold Oper.wp
  simp [execOp, hop, hm, hx, hv, hrun, Result.andThen]
  exact hK' _ _ (hK w' r1 r2)
theorem wpList_imap_drop (hg : o.guard = none) (m x : Operand) (hop : o.op = Op.call { callee := Callee.builtin Builtin.delete, args := #[m, x], argTypes := #[97, 3] }) (b : Nat) (f : Int → Int) (hm : a.eval m = .map (some b)) (h : IMap w b f) (q : Int) (hx : a.eval x = .int .i64 q)
    (hq : 0 ≤ q ∧ q ≤ 3) (hK : ∀ w', IMap w' b (putI f q 0) → Ext [b] w w' → wpList Try.prog ops Q rest (a.put o.dst (.tuple #[])) w') : wpList Try.prog ops Q (o :: rest) a w := by
  refine wpList_plain hg fun K' hK' => ?_
  obtain ⟨w', hrun, r1, r2⟩ := h.drop q hq o.type
  unfold Oper.wp
  simp [execOp, hop, resolve, invoke, builtin, hm, hx, hrun, Result.andThen]
  exact hK' _ _ (hK w' r1 r2)
end
end Go.Proofs.Ytedabpldigcffaa
