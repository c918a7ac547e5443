/- slices.Equal of ints: the walk. Condition: the slices read as lists. -/
import Derived.Test.YtgbjlccgnfcnaaaGreatSvW
namespace Go.Proofs.YtgbjlccgnfcnaaaGreat
open Go.RowKit
set_option linter.unusedSimpArgs false
set_option linter.unusedVariables false

theorem list_ext_take {xs ys : List Int} {n : Nat} (hx : xs.length = n) (hy : ys.length = n) (h : ∀ j, j < n → xs[j]? = ys[j]?) : xs = ys := by
  apply List.ext_getElem?
  intro i
  rcases Nat.lt_or_ge i n with h1 | h1
  · exact h i h1
  · rw [List.getElem?_eq_none (by omega), List.getElem?_eq_none (by omega)]
set_option maxHeartbeats 1000000 in
set_option maxRecDepth 100000 in
theorem equal_same (A B : Option Addr) (ca cb n : Nat) (xs ys : List Int) (w : World) (hA : RdI w A xs) (hB : RdI w B ys) (hl : n ≤ 9223372036854775807) (hx : xs.length = n) (hy : ys.length = n) :
    Calls Tryz.prog 8 #[.slice A n ca, .slice B n cb] w fun e w' => e = .returned (.bool (decide (xs = ys))) ∧ Ext [] w w' := by
  have HA := hd hA
  have HB := hd hB
  have HLX := hd hx
  have HLY := hd hy
  clear hA hB hx hy
  go_enter Tryz.func8, Tryz.ntmps8
  go_wp2_with fail
  go_loopw [13] (fun i wr => ∃ k : Nat, i = .int .i64 k ∧ k ≤ n ∧ Ext [] w wr ∧ Hd (∀ j, j < k → xs[j]? = ys[j]?)) (fun i _ => (n - intOf i).toNat)
  case atStart => exact ⟨0, rfl, Nat.zero_le _, Ext.refl _ _, hd fun j hj => absurd hj (by omega)⟩
  case round =>
    obtain ⟨k, rfl, hk, hE, HN⟩ := hrel
    have HE := hd hE
    by_cases hlt : k < n
    · have hx := List.getElem?_eq_getElem (l := xs) (i := k) (by have := HLX.out; omega)
      have hy := List.getElem?_eq_getElem (l := ys) (i := k) (by have := HLY.out; omega)
      rcases HA.out.ext hE (by simp) with h0 | ⟨b, o, rfl, hc⟩
      · have := HLX.out; simp [h0] at this; omega
      rcases HB.out.ext hE (by simp) with h0 | ⟨b2, o2, rfl, hc2⟩
      · have := HLY.out; simp [h0] at this; omega
      have hcx := hc k _ hx
      have hcy := hc2 k _ hy
      have HX := hd hx
      have HY := hd hy
      generalize xs[k]'_ = x at hcx HX
      generalize ys[k]'_ = y at hcy HY
      clear hc hc2 hx hy hE
      by_cases hxy : x = y
      · subst hxy
        go_wp2_with fail
        go_quiet (fail)
        go_wp2_with fail
        go_roundw
        case rel =>
          refine ⟨k + 1, by go_num, by omega, HE.out.drewN _, hd fun j hj => ?_⟩
          rcases Nat.lt_or_ge j k with h1 | h1
          · exact HN.out j h1
          · have : j = k := by omega
            rw [this, HX.out, HY.out]
        case measure => simp [intOf]; omega
      · have hb : (x != y) = true := by simpa using hxy
        have HV : Hd (xs ≠ ys) := hd fun e => by
          have := HX.out
          rw [e, HY.out] at this
          exact hxy (Option.some.inj this).symm
        clear hxy
        go_wp2_with fail
        go_quiet (fail)
        go_wp2_with fail
        go_ret
        exact ⟨ret_bool (by simpa using HV.out), HE.out.drewN _⟩
    · clear hE
      have HV : Hd (xs = ys) := hd (list_ext_take HLX.out HLY.out (fun j hj => HN.out j (by omega)))
      go_wp2_with fail
      go_ret
      exact ⟨ret_bool (by simpa using HV.out), HE.out⟩
theorem equal_int (A B : Option Addr) (ca cb : Nat) (xs ys : List Int) (w : World) (hA : RdI w A xs) (hB : RdI w B ys) (hl : xs.length ≤ 9223372036854775807) (hl2 : ys.length ≤ 9223372036854775807) :
    Calls Tryz.prog 8 #[.slice A xs.length ca, .slice B ys.length cb] w fun e w' => e = .returned (.bool (decide (xs = ys))) ∧ Ext [] w w' := by
  by_cases hlen : xs.length = ys.length
  · have := equal_same A B ca cb ys.length xs ys w hA hB hl2 hlen rfl
    rw [hlen]
    exact this
  · have hb : ((xs.length : Int) != (ys.length : Int)) = true := by simp; omega
    have HV : Hd (xs ≠ ys) := hd fun e => hlen (by rw [e])
    generalize xs.length = a at *
    generalize ys.length = b at *
    clear hA hB
    go_enter Tryz.func8, Tryz.ntmps8
    go_wp2_with fail
    go_ret
    exact ⟨ret_bool (by simpa using HV.out), Ext.refl _ _⟩
end Go.Proofs.YtgbjlccgnfcnaaaGreat
