/- The words of code, and how they are read back: plain definitions and laws. No program is named here; no condition. -/
import Derived.Test.YtedabpldigcffaaCheckF
import Derived.Test.YtedabpldigcffaaChipA
namespace Go.Proofs.Ytedabpldigcffaa
open Go.RowKit

/-- The four words of an instruction. -/
def w0S (x : Ins) : Int := wrap64 (wrap64 (wrap64 (x.op + wrap64 (64 * x.k)) + wrap64 (4096 * x.d)) + wrap64 (131072 * x.a))
def w1S (x : Ins) : Int := wrap64 (wrap64 (x.b + wrap64 (32 * wrap64 (x.c + 1024))) + wrap64 (65536 * x.p))
def wordsS (x : Ins) : List Int := [w0S x, w1S x, x.n, x.m]
def encS (xs : List Ins) : List Int := xs.flatMap wordsS
theorem encS_length (xs : List Ins) : (encS xs).length = 4 * xs.length := by
  induction xs with
  | nil => rfl
  | cons x l ih => simp only [encS, List.flatMap_cons, List.length_append, List.length_cons] at ih ⊢; rw [ih]; simp [wordsS]; omega
theorem encS_snoc (xs : List Ins) (x : Ins) : encS (xs ++ [x]) = encS xs ++ wordsS x := by simp [encS]
theorem encS_one (x : Ins) : encS [x] = wordsS x := by simp [encS]
theorem encS_take (xs : List Ins) (k : Nat) (x : Ins) (hx : xs[k]? = some x) : encS (xs.take (k + 1)) = encS (xs.take k) ++ wordsS x := by
  rw [List.take_add_one, hx]
  exact encS_snoc _ _

/-- The fields that four words have. -/
def fieldsW (p q n m : Int) : Ins := ⟨p % 64, p / 64 % 64, p / 4096 % 32, p / 131072 % 32, q % 32, q / 32 % 2048 - 1024, q / 65536 % 32, n, m⟩
def okW (p q n m : Int) : Bool := inR p 0 4194303 && (inR q 0 2097151 && (inR n (-2147483648) 2147483647 && (inR m (-2147483648) 2147483647 && inR (q / 32 % 2048 - 1024) (-1000) 1000)))
theorem words_fields (p q n m : Int) : (wordsS (fieldsW p q n m) = [p, q, n, m]) ↔ (inR p 0 4194303 = true ∧ inR q 0 2097151 = true) := by
  have h0 : w0S (fieldsW p q n m) = p % 4194304 := by
    simp only [w0S, fieldsW]
    unfold wrap64
    omega
  have h1 : w1S (fieldsW p q n m) = q % 2097152 := by
    simp only [w1S, fieldsW]
    unfold wrap64
    omega
  simp only [wordsS, h0, h1, List.cons.injEq, and_true, inR, Bool.and_eq_true, decide_eq_true_eq]
  simp only [fieldsW, and_self, and_true]
  omega

/-- The first j groups of four words, read. -/
def decAt (ws : List Int) : Nat → Option (List Ins)
  | 0 => some []
  | j + 1 => match decAt ws j with
    | none => none
    | some xs => if okW (ws.getD (4 * j) 0) (ws.getD (4 * j + 1) 0) (ws.getD (4 * j + 2) 0) (ws.getD (4 * j + 3) 0) then some (xs ++ [fieldsW (ws.getD (4 * j) 0) (ws.getD (4 * j + 1) 0) (ws.getD (4 * j + 2) 0) (ws.getD (4 * j + 3) 0)]) else none
theorem decAt_none (ws : List Int) (j : Nat) (h : decAt ws j = none) : ∀ d, decAt ws (j + d) = none
  | 0 => h
  | d + 1 => by
    show (match decAt ws (j + d) with | none => none | some xs => _) = _
    rw [decAt_none ws j h d]
theorem decAt_length (ws : List Int) : ∀ (j : Nat) (xs : List Ins), decAt ws j = some xs → xs.length = j
  | 0, xs, h => by cases h; rfl
  | j + 1, xs, h => by
    unfold decAt at h
    split at h
    · cases h
    · rename_i ys hy
      split at h
      · cases h
        simp [decAt_length ws j ys hy]
      · cases h
theorem decAt_ok (ws : List Int) (j : Nat) (xs : List Ins) (p q n m : Int) (h : decAt ws j = some xs) (h0 : ws[4 * j]? = some p) (h1 : ws[4 * j + 1]? = some q) (h2 : ws[4 * j + 2]? = some n) (h3 : ws[4 * j + 3]? = some m) (hk : okW p q n m = true) :
    decAt ws (j + 1) = some (xs ++ [fieldsW p q n m]) := by
  unfold decAt
  rw [h]
  simp [List.getD_eq_getElem?_getD, h0, h1, h2, h3, hk]
theorem decAt_bad (ws : List Int) (j : Nat) (xs : List Ins) (p q n m : Int) (h : decAt ws j = some xs) (h0 : ws[4 * j]? = some p) (h1 : ws[4 * j + 1]? = some q) (h2 : ws[4 * j + 2]? = some n) (h3 : ws[4 * j + 3]? = some m) (hk : okW p q n m = false) (hj : 4 * j < ws.length) :
    decAt ws (ws.length / 4) = none ∨ ws.length % 4 ≠ 0 := by
  by_cases h4 : ws.length % 4 = 0
  · left
    have hn : decAt ws (j + 1) = none := by
      unfold decAt
      rw [h]
      simp [List.getD_eq_getElem?_getD, h0, h1, h2, h3, hk]
    have := decAt_none ws (j + 1) hn (ws.length / 4 - (j + 1))
    rwa [show j + 1 + (ws.length / 4 - (j + 1)) = ws.length / 4 by omega] at this
  · exact .inr h4
/-- The error of reading words for a right machine. -/
def decE (m : Mc) (ws : List Int) : Int :=
  if ws.length % 4 = 0 then (match decAt ws (ws.length / 4) with | none => 3 | some xs => checkS m xs) else 11
/-- The code that words have, if they have one. -/
def decX (m : Mc) (ws : List Int) : List Ins := if decE m ws = 0 then (decAt ws (ws.length / 4)).getD [] else []
theorem decE_short {m : Mc} {ws : List Int} (h : ws.length % 4 ≠ 0) : decE m ws = 11 := by unfold decE; rw [if_neg h]
theorem decE_none {m : Mc} {ws : List Int} (h : ws.length % 4 = 0) (hn : decAt ws (ws.length / 4) = none) : decE m ws = 3 := by unfold decE; rw [if_pos h, hn]
theorem decE_some {m : Mc} {ws : List Int} {xs : List Ins} (h : ws.length % 4 = 0) (hn : decAt ws (ws.length / 4) = some xs) : decE m ws = checkS m xs := by unfold decE; rw [if_pos h, hn]
theorem decX_bad {m : Mc} {ws : List Int} (h : decE m ws ≠ 0) : decX m ws = [] := by unfold decX; rw [if_neg h]
theorem decX_ok {m : Mc} {ws : List Int} {xs : List Ins} (h : decE m ws = 0) (hn : decAt ws (ws.length / 4) = some xs) : decX m ws = xs := by unfold decX; rw [if_pos h, hn]; rfl
end Go.Proofs.Ytedabpldigcffaa
namespace Go.Proofs.Ytedabpldigcffaa
open Go.RowKit
set_option linter.unusedSimpArgs false
set_option linter.unusedVariables false

set_option maxHeartbeats 1000000 in
set_option maxRecDepth 100000 in
theorem words_any (x : Ins) (w : World) : Calls Try.prog 62 #[.agg x.cells.toArray] w fun e w' => e = .returned (.agg #[.int .i64 (w0S x), .int .i64 (w1S x), .int .i64 x.n, .int .i64 x.m]) ∧ Ext [] w w' := by
  obtain ⟨x0, x1, x2, x3, x4, x5, x6, x7, x8⟩ := x
  simp only [Ins.cells]
  go_enter Try.func62, Try.ntmps62
  go_wp2_with fail
  exact bodyPost_ret (results_cell_row rfl _ _ (w.heap.size + 1) 93 #[.int .i64 (w0S ⟨x0, x1, x2, x3, x4, x5, x6, x7, x8⟩), .int .i64 (w1S ⟨x0, x1, x2, x3, x4, x5, x6, x7, x8⟩), .int .i64 x7, .int .i64 x8] (0, 0) _ rfl (Blk.new' _ _ _ _ (by simp)) Try.underlying93 rfl (by kernel_rfl)) rfl ⟨rfl, ((Ext.refl _ _).alloc _).alloc _⟩

theorem list_ext_take {xs ys : List Int} {n : Nat} (hx : xs.length = n) (hy : ys.length = n) (h : ∀ j, j < n → xs[j]? = ys[j]?) : xs = ys := by
  apply List.ext_getElem?
  intro i
  rcases Nat.lt_or_ge i n with h1 | h1
  · exact h i h1
  · rw [List.getElem?_eq_none (by omega), List.getElem?_eq_none (by omega)]
set_option maxHeartbeats 1000000 in
set_option maxRecDepth 100000 in
theorem equal_same (A B : Option Addr) (ca cb n : Nat) (xs ys : List Int) (w : World) (hA : RdI w A xs) (hB : RdI w B ys) (hl : n ≤ 9223372036854775807) (hx : xs.length = n) (hy : ys.length = n) :
    Calls Try.prog 28 #[.slice A n ca, .slice B n cb] w fun e w' => e = .returned (.bool (decide (xs = ys))) ∧ Ext [] w w' := by
  have HA := hd hA
  have HB := hd hB
  have HLX := hd hx
  have HLY := hd hy
  clear hA hB hx hy
  go_enter Try.func28, Try.ntmps28
  go_wp2_with fail
  go_loopw [13] (fun i wr => ∃ k : Nat, i = .int .i64 k ∧ k ≤ n ∧ Ext [] w wr ∧ Hd (∀ j, j < k → xs[j]? = ys[j]?)) (fun i _ => (n - intOf i).toNat)
  case atStart => exact ⟨0, rfl, Nat.zero_le _, Ext.refl _ _, hd fun j hj => absurd hj (by omega)⟩
  case round =>
    obtain ⟨k, rfl, hk, hE, HN⟩ := hrel
    have HE := hd hE
    by_cases hlt : k < n
    · have hx := List.getElem?_eq_getElem (l := xs) (i := k) (by have := HLX.out; omega)
      have hy := List.getElem?_eq_getElem (l := ys) (i := k) (by have := HLY.out; omega)
      rcases HA.out.ext hE (by simp) with h0 | ⟨b, o, rfl, hc⟩
      · have := HLX.out; simp [h0] at this; omega
      rcases HB.out.ext hE (by simp) with h0 | ⟨b2, o2, rfl, hc2⟩
      · have := HLY.out; simp [h0] at this; omega
      have hcx := hc k _ hx
      have hcy := hc2 k _ hy
      have HX := hd hx
      have HY := hd hy
      generalize xs[k]'_ = x at hcx HX
      generalize ys[k]'_ = y at hcy HY
      clear hc hc2 hx hy hE
      by_cases hxy : x = y
      · subst hxy
        go_wp2_with fail
        go_quiet (fail)
        go_wp2_with fail
        go_roundw
        case rel =>
          refine ⟨k + 1, by go_num, by omega, HE.out.drewN _, hd fun j hj => ?_⟩
          rcases Nat.lt_or_ge j k with h1 | h1
          · exact HN.out j h1
          · have : j = k := by omega
            rw [this, HX.out, HY.out]
        case measure => simp [intOf]; omega
      · have hb : (x != y) = true := by simpa using hxy
        have HV : Hd (xs ≠ ys) := hd fun e => by
          have := HX.out
          rw [e, HY.out] at this
          exact hxy (Option.some.inj this).symm
        clear hxy
        go_wp2_with fail
        go_quiet (fail)
        go_wp2_with fail
        go_ret
        exact ⟨ret_bool (by simpa using HV.out), HE.out.drewN _⟩
    · clear hE
      have HV : Hd (xs = ys) := hd (list_ext_take HLX.out HLY.out (fun j hj => HN.out j (by omega)))
      go_wp2_with fail
      go_ret
      exact ⟨ret_bool (by simpa using HV.out), HE.out⟩
theorem equal_int (A B : Option Addr) (ca cb : Nat) (xs ys : List Int) (w : World) (hA : RdI w A xs) (hB : RdI w B ys) (hl : xs.length ≤ 9223372036854775807) (hl2 : ys.length ≤ 9223372036854775807) :
    Calls Try.prog 28 #[.slice A xs.length ca, .slice B ys.length cb] w fun e w' => e = .returned (.bool (decide (xs = ys))) ∧ Ext [] w w' := by
  by_cases hlen : xs.length = ys.length
  · have := equal_same A B ca cb ys.length xs ys w hA hB hl2 hlen rfl
    rw [hlen]
    exact this
  · have hb : ((xs.length : Int) != (ys.length : Int)) = true := by simp; omega
    have HV : Hd (xs ≠ ys) := hd fun e => hlen (by rw [e])
    generalize xs.length = a at *
    generalize ys.length = b at *
    clear hA hB
    go_enter Try.func28, Try.ntmps28
    go_wp2_with fail
    go_ret
    exact ⟨ret_bool (by simpa using HV.out), Ext.refl _ _⟩
end Go.Proofs.Ytedabpldigcffaa
