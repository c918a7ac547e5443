/- The small machine's first steps: no hazard; prices. -/
import Derived.Test.YtedabpldigcffaaChipF
namespace Go.Proofs.Ytedabpldigcffaa
open Go.RowKit
set_option linter.unusedSimpArgs false
set_option linter.unusedVariables false

/-- The chip and its queue, of which nothing is on its way. -/
structure Idle (w : World) (c : Nat) (u : CU) (vb vs : Value) (r1 pc cyc : Int) (over : Bool) : Prop where
  chip : ChipAt w c u vb vs r1 pc cyc over
  queue : Blk w u.b4 157 #[.pointer none]
  apart : u.b4 ≠ c
theorem Idle.ext {T : List Nat} {w w' : World} {c : Nat} {u : CU} {vb vs : Value} {r1 pc cyc : Int} {over : Bool} (h : Idle w c u vb vs r1 pc cyc over) (hE : Ext T w w') (hc : c ∉ T) (hq : u.b4 ∉ T) : Idle w' c u vb vs r1 pc cyc over :=
  ⟨h.chip.ext hE hc, h.queue.ext hE hq, h.apart⟩

set_option maxHeartbeats 1000000 in
set_option maxRecDepth 100000 in
theorem hazard_num {w : World} {c : Nat} {u : CU} {vb vs : Value} {r1 pc cyc : Int} {over : Bool} (h : Idle w c u vb vs r1 pc cyc over) :
    Calls Try.prog 106 #[.pointer (some ⟨c, 0, none⟩), .agg #[.int .i64 1, .int .i64 0, .int .i64 1, .int .i64 0, .int .i64 0, .int .i64 0, .int .i64 0, .int .i64 5, .int .i64 0]] w fun e w' => e = .returned (.int .i64 0) ∧ Ext [] w w' := by
  have HH := hd h
  clear h
  have hmf : ∀ (fn : Fn) (first cap : Array Value) (w : World), (Instr.makeFunc fn first cap).run Try.prog w = .ok (.func fn first cap) w := fun _ _ _ _ => rfl
  go_enter Try.func106, Try.ntmps106
  go_wp2_with fail
  refine (touched_num (HH.out.chip.ext ((Ext.refl [] w).alloc _) (by simp))).mono ?_
  rintro e w1 ⟨rfl, hE1⟩
  have HE1 := hd (((Ext.refl [] w).alloc _).trans hE1)
  clear hE1
  go_wp2_with fail
  refine (containsArea_nil _ _).mono ?_
  rintro e w2 ⟨rfl, hE2⟩
  have HE2 := hd (HE1.out.trans hE2)
  clear hE2
  go_wp2_with fail
  refine (containsArea_nil _ _).mono ?_
  rintro e w3 ⟨rfl, hE3⟩
  have HE3 := hd (HE2.out.trans hE3)
  have hI := HH.out.ext HE3.out (by simp) (by simp)
  have q162 := hI.chip.at 162 (.slice (some ⟨u.b4, 0, none⟩) 1 1) rfl
  have ql := hI.chip.lt
  clear hE3 hI
  go_wp2_with fail
  clear q162 ql
  go_loopw [33] (fun i wr => ∃ k : Nat, i = .int .i64 k ∧ k ≤ 1 ∧ wr = w3) (fun i _ => (1 - intOf i).toNat)
  case atStart => exact ⟨0, rfl, by omega, rfl⟩
  case round =>
    obtain ⟨k, rfl, hk, rfl⟩ := hrel
    have hQ := HH.out.queue.ext HE3.out (by simp)
    have qq := hQ.cell
    have ql := hQ.lt
    clear hQ
    rcases (show k = 0 ∨ k = 1 by omega) with rfl | rfl
    · go_wp2_with fail
      go_round
      case rel => exact ⟨1, rfl, by omega, by first | rfl | trivial⟩
      case measure => simp [intOf]
    · go_wp2_with fail
      go_loopw [68] (fun i wx => i = .int .i64 0 ∧ wx = wr) (fun _ _ => 0)
      case atStart => exact ⟨rfl, rfl⟩
      case round =>
        obtain ⟨rfl, rfl⟩ := hrel
        go_wp2_with fail
        go_ret
        exact ⟨rfl, HE3.out⟩
set_option maxHeartbeats 1000000 in
set_option maxRecDepth 100000 in
theorem hazard_stm {w : World} {c : Nat} {u : CU} {vb vs : Value} {r1 pc cyc : Int} {over : Bool} (h : Idle w c u vb vs r1 pc cyc over) :
    Calls Try.prog 106 #[.pointer (some ⟨c, 0, none⟩), .agg #[.int .i64 6, .int .i64 0, .int .i64 0, .int .i64 0, .int .i64 1, .int .i64 0, .int .i64 0, .int .i64 3, .int .i64 0]] w fun e w' => e = .returned (.int .i64 0) ∧ Ext [] w w' := by
  have HH := hd h
  clear h
  have hmf : ∀ (fn : Fn) (first cap : Array Value) (w : World), (Instr.makeFunc fn first cap).run Try.prog w = .ok (.func fn first cap) w := fun _ _ _ _ => rfl
  go_enter Try.func106, Try.ntmps106
  go_wp2_with fail
  refine (touched_stm (HH.out.chip.ext ((Ext.refl [] w).alloc _) (by simp))).mono ?_
  rintro e w1 ⟨b, rfl, hE1, hB1⟩
  have HB1 := hd hB1
  have HE1 := hd (((Ext.refl [] w).alloc _).trans hE1)
  clear hE1 hB1
  go_wp2_with fail
  refine (containsArea_nil _ _).mono ?_
  rintro e w2 ⟨rfl, hE2⟩
  have HB2 := hd (HB1.out.ext hE2 (by simp))
  have HE2 := hd (HE1.out.trans hE2)
  clear hE2
  go_wp2_with fail
  refine (containsArea_stm (HH.out.chip.ext HE2.out (by simp)) HB2.out).mono ?_
  rintro e w3 ⟨rfl, hE3⟩
  have HE3 := hd (HE2.out.trans hE3)
  have hI := HH.out.ext HE3.out (by simp) (by simp)
  have q162 := hI.chip.at 162 (.slice (some ⟨u.b4, 0, none⟩) 1 1) rfl
  have ql := hI.chip.lt
  clear hE3 hI
  go_wp2_with fail
  clear q162 ql
  go_loopw [33] (fun i wr => ∃ k : Nat, i = .int .i64 k ∧ k ≤ 1 ∧ wr = w3) (fun i _ => (1 - intOf i).toNat)
  case atStart => exact ⟨0, rfl, by omega, rfl⟩
  case round =>
    obtain ⟨k, rfl, hk, rfl⟩ := hrel
    have hQ := HH.out.queue.ext HE3.out (by simp)
    have qq := hQ.cell
    have ql := hQ.lt
    clear hQ
    rcases (show k = 0 ∨ k = 1 by omega) with rfl | rfl
    · go_wp2_with fail
      go_round
      case rel => exact ⟨1, rfl, by omega, by first | rfl | trivial⟩
      case measure => simp [intOf]
    · go_wp2_with fail
      go_loopw [68] (fun i wx => i = .int .i64 0 ∧ wx = wr) (fun _ _ => 0)
      case atStart => exact ⟨rfl, rfl⟩
      case round =>
        obtain ⟨rfl, rfl⟩ := hrel
        go_wp2_with fail
        go_ret
        exact ⟨rfl, HE3.out⟩
theorem price_num (w : World) : Calls Try.prog 102 #[.agg #[.int .i64 8, .int .i64 2, .int .i64 256, .int .i64 2, .int .i64 1], .agg #[.int .i64 1, .int .i64 0, .int .i64 1, .int .i64 0, .int .i64 0, .int .i64 0, .int .i64 0, .int .i64 5, .int .i64 0]] w fun e w' => e = .returned (.int .i64 1) ∧ Ext [] w w' := by
  go_enter Try.func102, Try.ntmps102
  go_wp2_with fail
  go_ret
  exact ⟨rfl, ((Ext.refl _ _).alloc _).alloc _⟩
theorem price_stm (w : World) : Calls Try.prog 102 #[.agg #[.int .i64 8, .int .i64 2, .int .i64 256, .int .i64 2, .int .i64 1], .agg #[.int .i64 6, .int .i64 0, .int .i64 0, .int .i64 0, .int .i64 1, .int .i64 0, .int .i64 0, .int .i64 3, .int .i64 0]] w fun e w' => e = .returned (.int .i64 20) ∧ Ext [] w w' := by
  go_enter Try.func102, Try.ntmps102
  go_wp2_with fail
  go_ret
  exact ⟨rfl, ((Ext.refl _ _).alloc _).alloc _⟩
set_option maxRecDepth 100000 in
/-- A queue of which nothing is on its way. -/
theorem wait_idle {w : World} {c : Nat} {u : CU} {vb vs : Value} {r1 pc cyc : Int} {over : Bool} (h : Idle w c u vb vs r1 pc cyc over) :
    Calls Try.prog 105 #[.pointer (some ⟨c, 0, none⟩), .int .i64 0] w fun e w' => e = .returned (.tuple #[]) ∧ w' = w := by
  have q162 := h.chip.at 162 (.slice (some ⟨u.b4, 0, none⟩) 1 1) rfl
  have ql := h.chip.lt
  have qq := h.queue.cell
  have ql2 := h.queue.lt
  clear h
  go_enter Try.func105, Try.ntmps105
  go_wp2_with fail
  exact bodyPost_ret (results_none rfl _ _ _) rfl ⟨rfl, rfl⟩
end Go.Proofs.Ytedabpldigcffaa
