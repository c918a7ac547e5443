/- ContainsFunc over sizes: the walk (printed by tools/gen_pakh.py). Condition: few sizes. -/
import Derived.Test.YtedabpldigcffaaPakG
import Derived.Test.YtedabpldigcffaaCheckA
namespace Go.Proofs.Ytedabpldigcffaa
open Go.RowKit
set_option linter.unusedSimpArgs false
set_option linter.unusedVariables false

/-- A size that is not right. -/
def badZ (x : Int) : Bool := decide (x < 1) || decide (4096 < x)
theorem badZ_inR (x : Int) : badZ x = !(inR x 1 4096) := by
  unfold badZ inR
  by_cases h1 : x < 1 <;> by_cases h2 : 4096 < x <;> simp [h1, h2] <;> omega
set_option maxRecDepth 100000 in
theorem pack1_any (x : Int) (w : World) : Calls Try.prog 41 #[.int .i64 x] w fun e w' => e = .returned (.bool (badZ x)) ∧ w = w' := by
  have HB := hd (badZ_inR x)
  go_enter Try.func41, Try.ntmps41
  go_wp2_with fail
  refine (within_any x 1 4096 w).mono ?_
  rintro e w' ⟨rfl, rfl⟩
  go_wp2_with fail
  go_ret
  exact ⟨ret_bool (by rw [HB.out]), rfl⟩
set_option maxRecDepth 100000 in
theorem packFault1_any (x : Int) (w : World) : Calls Try.prog 43 #[.int .i64 x] w fun e w' => e = .returned (.bool (badZ x)) ∧ w = w' := by
  have HB : Hd (badZ x = (decide (x < 1) || decide (4096 < x))) := hd rfl
  by_cases h1 : x < 1
  · have e1 : decide (x < 1) = true := decide_eq_true h1
    go_enter Try.func43, Try.ntmps43
    go_wp2_with fail
    go_ret
    exact ⟨ret_bool (by rw [HB.out]; simp [h1]), rfl⟩
  · have e1 : decide (x < 1) = false := decide_eq_false h1
    go_enter Try.func43, Try.ntmps43
    go_wp2_with fail
    go_ret
    exact ⟨ret_bool (by rw [HB.out]; simp [e1]), rfl⟩

set_option maxHeartbeats 2000000 in
set_option maxRecDepth 100000 in
theorem idx_pack (A : Option Addr) (n cap : Nat) (zs : List Int) (w : World) (h : RdI w A zs) (hn : zs.length = n) (hl : n ≤ 1000) :
    Calls Try.prog 69 #[.slice A n cap, .func (.func 41) #[] #[]] w fun e w' => ∃ r : Int, e = .returned (.int .i64 r) ∧ (0 ≤ r ↔ zs.any badZ = true) ∧ Ext [] w w' := by
  have HR := hd h
  have HN := hd hn
  clear h hn
  go_enter Try.func69, Try.ntmps69
  go_wp2_with fail
  go_loopw [8] (fun i wr => ∃ j : Nat, i = .int .i64 j ∧ j ≤ n ∧ Hd (∀ s, s < j → badZ (gi zs s) = false) ∧ Hd (Ext [] w wr)) (fun i _ => (n - intOf i).toNat)
  case atStart => exact ⟨0, rfl, Nat.zero_le _, hd fun s hs => absurd hs (by omega), hd (Ext.refl _ _)⟩
  case round =>
    obtain ⟨j, rfl, hj, HF, HE⟩ := hrel
    by_cases hlt : j < n
    · obtain ⟨b, o, rfl, lb, q1⟩ := (HR.out.ext HE.out (by simp)).at (k := j) (by rw [HN.out]; exact hlt)
      have HM : Hd (gi zs j ∈ zs) := hd (List.mem_of_getElem? (gi_lt (by rw [HN.out]; exact hlt)))
      have HX : Hd (∃ x, x = gi zs j) := hd ⟨_, rfl⟩
      obtain ⟨x, hx⟩ := HX.out
      have HX := hd hx
      rw [← hx] at q1
      clear hx
      go_wp2_with fail
      refine (pack1_any x _).mono ?_
      rintro e w3 ⟨rfl, rfl⟩
      cases hb : badZ x
      · have HB : Hd (badZ (gi zs j) = false) := hd (by rw [← HX.out]; exact hb)
        go_wp2_with fail
        go_roundw
        case rel =>
          refine ⟨j + 1, by go_num, by omega, hd fun s hs => ?_, HE⟩
          rcases Nat.lt_or_ge s j with h1 | h1
          · exact HF.out s h1
          · have : s = j := by omega
            rw [this]; exact HB.out
        case measure => simp [intOf]; omega
      · have HB : Hd (badZ (gi zs j) = true) := hd (by rw [← HX.out]; exact hb)
        go_wp2_with fail
        go_ret
        exact ⟨_, rfl, ⟨fun _ => List.any_eq_true.2 ⟨_, HM.out, HB.out⟩, fun _ => by omega⟩, HE.out⟩
    · go_wp2_with fail
      go_ret
      refine ⟨_, rfl, ⟨fun h => by omega, fun h => ?_⟩, HE.out⟩
      obtain ⟨x, hx, hp⟩ := List.any_eq_true.1 h
      obtain ⟨s, hs⟩ := List.getElem?_of_mem hx
      have hsl : s < zs.length := (List.getElem?_eq_some_iff.1 hs).1
      have h2 := HF.out s (by have := HN.out; omega)
      rw [gi_lt hsl] at hs
      cases hs
      rw [h2] at hp; cases hp
set_option maxRecDepth 100000 in
theorem has_pack (A : Option Addr) (n cap : Nat) (zs : List Int) (w : World) (h : RdI w A zs) (hn : zs.length = n) (hl : n ≤ 1000) :
    Calls Try.prog 40 #[.slice A n cap, .func (.func 41) #[] #[]] w fun e w' => e = .returned (.bool (zs.any badZ)) ∧ Ext [] w w' := by
  have HX := hd (idx_pack A n cap zs w h hn hl)
  clear h hn
  go_enter Try.func40, Try.ntmps40
  go_wp2_with fail
  refine HX.out.mono ?_
  rintro e w' ⟨r, rfl, hr, hE⟩
  have HR := hd hr
  have HE := hd hE
  clear hr hE
  go_wp2_with fail
  go_ret
  exact ⟨ret_bool (by rw [Bool.eq_iff_iff, decide_eq_true_iff]; exact HR.out), HE.out⟩

set_option maxHeartbeats 2000000 in
set_option maxRecDepth 100000 in
theorem idx_fault (A : Option Addr) (n cap : Nat) (zs : List Int) (w : World) (h : RdI w A zs) (hn : zs.length = n) (hl : n ≤ 1000) :
    Calls Try.prog 69 #[.slice A n cap, .func (.func 43) #[] #[]] w fun e w' => ∃ r : Int, e = .returned (.int .i64 r) ∧ (0 ≤ r ↔ zs.any badZ = true) ∧ Ext [] w w' := by
  have HR := hd h
  have HN := hd hn
  clear h hn
  go_enter Try.func69, Try.ntmps69
  go_wp2_with fail
  go_loopw [8] (fun i wr => ∃ j : Nat, i = .int .i64 j ∧ j ≤ n ∧ Hd (∀ s, s < j → badZ (gi zs s) = false) ∧ Hd (Ext [] w wr)) (fun i _ => (n - intOf i).toNat)
  case atStart => exact ⟨0, rfl, Nat.zero_le _, hd fun s hs => absurd hs (by omega), hd (Ext.refl _ _)⟩
  case round =>
    obtain ⟨j, rfl, hj, HF, HE⟩ := hrel
    by_cases hlt : j < n
    · obtain ⟨b, o, rfl, lb, q1⟩ := (HR.out.ext HE.out (by simp)).at (k := j) (by rw [HN.out]; exact hlt)
      have HM : Hd (gi zs j ∈ zs) := hd (List.mem_of_getElem? (gi_lt (by rw [HN.out]; exact hlt)))
      have HX : Hd (∃ x, x = gi zs j) := hd ⟨_, rfl⟩
      obtain ⟨x, hx⟩ := HX.out
      have HX := hd hx
      rw [← hx] at q1
      clear hx
      go_wp2_with fail
      refine (packFault1_any x _).mono ?_
      rintro e w3 ⟨rfl, rfl⟩
      cases hb : badZ x
      · have HB : Hd (badZ (gi zs j) = false) := hd (by rw [← HX.out]; exact hb)
        go_wp2_with fail
        go_roundw
        case rel =>
          refine ⟨j + 1, by go_num, by omega, hd fun s hs => ?_, HE⟩
          rcases Nat.lt_or_ge s j with h1 | h1
          · exact HF.out s h1
          · have : s = j := by omega
            rw [this]; exact HB.out
        case measure => simp [intOf]; omega
      · have HB : Hd (badZ (gi zs j) = true) := hd (by rw [← HX.out]; exact hb)
        go_wp2_with fail
        go_ret
        exact ⟨_, rfl, ⟨fun _ => List.any_eq_true.2 ⟨_, HM.out, HB.out⟩, fun _ => by omega⟩, HE.out⟩
    · go_wp2_with fail
      go_ret
      refine ⟨_, rfl, ⟨fun h => by omega, fun h => ?_⟩, HE.out⟩
      obtain ⟨x, hx, hp⟩ := List.any_eq_true.1 h
      obtain ⟨s, hs⟩ := List.getElem?_of_mem hx
      have hsl : s < zs.length := (List.getElem?_eq_some_iff.1 hs).1
      have h2 := HF.out s (by have := HN.out; omega)
      rw [gi_lt hsl] at hs
      cases hs
      rw [h2] at hp; cases hp
set_option maxRecDepth 100000 in
theorem has_fault (A : Option Addr) (n cap : Nat) (zs : List Int) (w : World) (h : RdI w A zs) (hn : zs.length = n) (hl : n ≤ 1000) :
    Calls Try.prog 40 #[.slice A n cap, .func (.func 43) #[] #[]] w fun e w' => e = .returned (.bool (zs.any badZ)) ∧ Ext [] w w' := by
  have HX := hd (idx_fault A n cap zs w h hn hl)
  clear h hn
  go_enter Try.func40, Try.ntmps40
  go_wp2_with fail
  refine HX.out.mono ?_
  rintro e w' ⟨r, rfl, hr, hE⟩
  have HR := hd hr
  have HE := hd hE
  clear hr hE
  go_wp2_with fail
  go_ret
  exact ⟨ret_bool (by rw [Bool.eq_iff_iff, decide_eq_true_iff]; exact HR.out), HE.out⟩
end Go.Proofs.Ytedabpldigcffaa
