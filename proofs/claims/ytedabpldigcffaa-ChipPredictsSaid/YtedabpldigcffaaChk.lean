/- CheckMachine and Check are as specified: the walk. -/
import Derived.Test.YtedabpldigcffaaCoded
import Derived.Test.YtedabpldigcffaaRefI
import Derived.Test.YtedabpldigcffaaChipK
namespace Go.Proofs.Ytedabpldigcffaa
open Go.RowKit
set_option linter.unusedSimpArgs false
set_option linter.unusedVariables false
attribute [local irreducible] relAt

/-- The code so far. -/
def ChkLoop (base g k : Nat) (w : World) (v : Value) (wr : World) : Prop := Ext [g] w wr ∧ Stm wr base g ((10 - k) * 20) ∧ ∃ len, Cs wr (g + 1) v len ∧ len ≤ 60000 + k
/-- A stream over the argument. -/
theorem stream_new (A : Option Addr) (len cap : Nat) (w : World) (hlen : len ≤ 9223372036854775807) (hA : 0 < len → ∃ b o, A = some ⟨b, o, none⟩ ∧ b < w.heap.size ∧ ∀ i, i < len → ∃ x, w.cell? ⟨b, o + i, none⟩ = some (.int .i64 x)) :
    Stm (w.alloc (.cells #[.slice A len cap, .int .i64 0] 25)) w.heap.size w.heap.size 1000000000 :=
  ⟨A, len, cap, 0, Blk.new _ _ _, Nat.le_refl _, Int.le_refl _, by omega, hlen, fun h => by
    obtain ⟨b, o, h1, h2, h3⟩ := hA h
    refine ⟨b, o, h1, h2, fun i hi => ?_⟩
    obtain ⟨x, hx⟩ := h3 i hi
    exact ⟨x, ((Ext.refl [] w).alloc _).held hx (by simp)⟩⟩

set_option maxHeartbeats 4000000 in
set_option maxRecDepth 100000 in
theorem chipChecks_any (A : Option Addr) (len cap : Nat) (w : World) (hlen : len ≤ 9223372036854775807) (hA : 0 < len → ∃ b o, A = some ⟨b, o, none⟩ ∧ b < w.heap.size ∧ ∀ i, i < len → ∃ x, w.cell? ⟨b, o + i, none⟩ = some (.int .i64 x)) :
    Calls Try.prog 4 #[.slice A len cap] w fun e w' => e = .returned (.bool true) ∧ Ext [] w w' := by
  have HST := hd (stream_new A len cap w hlen hA)
  clear hA
  go_enter Try.func4, Try.ntmps4
  go_wp2_with fail
  refine (coded_any w.heap.size w.heap.size 1000 _ (HST.out.less (by omega))).mono ?_
  rintro e w1 ⟨⟨m0, m1, m2, m3, m4⟩, v, len1, rfl, hC, hl1, hE, hS⟩
  have HC1 : Hd (Cs w1 (w.heap.size + 1) v len1) := hd (hC.mono (by simp))
  have HE1 : Hd (Ext [] w w1) := hd (((Ext.refl [] w).alloc _).step hE (fun i hi => .inr (by rw [List.mem_singleton.1 hi]; exact Nat.le_refl _)))
  have HS1 := hd hS
  have hgw1 : w.heap.size < w1.heap.size := hS.lt
  clear hC hE hS
  simp only [Mc.cells]
  go_wp2_with fail
  have HM2 := hd (Blk.new w1 40 #[.int .i64 m0, .int .i64 m1, .int .i64 m2, .int .i64 m3, .int .i64 m4])
  refine (next_any w.heap.size w.heap.size 900 3 _ ((HS1.out.less (by omega)).alloc _) (by omega)).mono ?_
  rintro e w2 ⟨rp, rfl, ⟨hr0, hr1⟩, hE2, hS2⟩
  replace hr1 := hr1 (by omega)
  have hEE := ((Ext.refl [w.heap.size] w1).alloc (.cells #[.int .i64 m0, .int .i64 m1, .int .i64 m2, .int .i64 m3, .int .i64 m4] 40)).trans hE2
  have HL2 : Hd (ChkLoop w.heap.size w.heap.size 0 w1 v w2) := hd ⟨hEE, hS2.less (by omega), _, HC1.out.ext hEE (by simp), by omega⟩
  have HM3 := hd (HM2.out.ext hE2 (by simp; omega))
  have hmw2 : w1.heap.size < w2.heap.size := HM3.out.lt
  clear hE2 hS2 hEE HM2
  go_wp2_with fail
  go_loopw [5, 16] (fun v i wr => ∃ k : Nat, i = .int .i64 k ∧ (k : Int) ≤ rp ∧ Hd (ChkLoop w.heap.size w.heap.size k w1 v wr) ∧ Hd (Ext [w.heap.size] w2 wr)) (fun _ i _ => (rp - intOf i).toNat)
  case atStart => exact ⟨0, rfl, by omega, HL2, hd (Ext.refl _ _)⟩
  case round =>
    obtain ⟨k, rfl, hk, HL4, HE4⟩ := hrel
    by_cases hlt : (k : Int) < rp
    · go_wp2_with fail
      obtain ⟨h1, h2, len2, h3, h4⟩ := HL4.out
      refine (spoiled_any w.heap.size w.heap.size ((10 - (k + 1)) * 20) len2 _ _ _ h3 (by omega) (h2.less (by omega))).mono ?_
      rintro e w5 ⟨v', len', rfl, h5, h6, h7, h8⟩
      have HN : Hd (ChkLoop w.heap.size w.heap.size (k + 1) w1 v' w5) := hd ⟨h1.trans h7, h8, _, h5.mono (by have := HE4.out.size; omega), by omega⟩
      have HN2 := hd (HE4.out.trans h7)
      clear h1 h2 h3 h4 h5 h6 h7 h8
      go_wp2_with fail
      go_roundw
      case rel => exact ⟨k + 1, by go_num, by omega, HN, HN2⟩
      case measure => simp [intOf]; omega
    · have HM5 := hd (HM3.out.ext HE4.out (by simp; omega))
      obtain ⟨h1, h2, len2, ⟨A2, cap2, xs, rfl, hx, hr, hb⟩, h4⟩ := HL4.out
      have HR := hd hr
      subst hx
      have HEW : Hd (Ext [] w wr) := hd (HE1.out.step h1 (fun i hi => .inr (by rw [List.mem_singleton.1 hi]; exact Nat.le_refl _)))
      have HXL := hd h4
      clear h1 h2 hr hb h4
      go_wp2_with fail
      have hxl : xs.length ≤ 100000 := by have := HXL.out; omega
      obtain ⟨ev, hev⟩ : ∃ ev, ev = okE (Mc.okB ⟨m0, m1, m2, m3, m4⟩) 9 := ⟨_, rfl⟩
      obtain ⟨cv, hcv⟩ : ∃ cv, cv = checkS ⟨m0, m1, m2, m3, m4⟩ xs := ⟨_, rfl⟩
      have HK0 : Hd (∀ W, Ext [] wr W → Calls Try.prog 13 #[] W fun e w' => e = .returned (.bool true) ∧ Ext [] W w') := hd fun W _ => chips_any W
      have HK1 : Hd (∀ W, Ext [] wr W → Calls Try.prog 20 #[.agg #[.int .i64 m0, .int .i64 m1, .int .i64 m2, .int .i64 m3, .int .i64 m4]] W fun e w' => e = .returned (.int .i64 ev) ∧ Ext [] W w') := hd fun W _ => by rw [hev]; exact checkMachine_any ⟨m0, m1, m2, m3, m4⟩ W
      have HK2 : Hd (∀ W, Ext [] wr W → Calls Try.prog 21 #[.agg #[.int .i64 m0, .int .i64 m1, .int .i64 m2, .int .i64 m3, .int .i64 m4]] W fun e w' => e = .returned (.int .i64 ev) ∧ Ext [] W w') := hd fun W _ => by rw [hev]; exact machineFault_any ⟨m0, m1, m2, m3, m4⟩ W
      have HK3 : Hd (∀ W, Ext [] wr W → Calls Try.prog 22 #[.agg #[.int .i64 m0, .int .i64 m1, .int .i64 m2, .int .i64 m3, .int .i64 m4], .slice A2 xs.length cap2] W fun e w' => e = .returned (.int .i64 cv) ∧ Ext [] W w') := hd fun W hE => by rw [hcv]; exact check_any ⟨m0, m1, m2, m3, m4⟩ A2 cap2 xs W (HR.out.ext hE (by simp)) hxl
      have HK4 : Hd (∀ W, Ext [] wr W → Calls Try.prog 23 #[.agg #[.int .i64 m0, .int .i64 m1, .int .i64 m2, .int .i64 m3, .int .i64 m4], .slice A2 xs.length cap2] W fun e w' => e = .returned (.int .i64 cv) ∧ Ext [] W w') := hd fun W hE => by rw [hcv]; exact chipFault_any ⟨m0, m1, m2, m3, m4⟩ A2 cap2 xs W (HR.out.ext hE (by simp)) hxl
      generalize xs.length = xl at *
      clear hev hcv HL4
      refine wp_region_rel 14 (JE _) (Ext []) (kinds [(0, sFix (.bool true)), (3, sFix (.int .i64 ev)), (5, sFix (.int .i64 ev)), (11, sFix (.int .i64 cv))]) (by kernel_rfl) (by kernel_rfl) JE.less ?_ JE.start ?_
      · repeat (first | exact Stays.nil | refine Stays.cons sFix.stays ?_)
      simp only [List.take_succ_cons, List.take_zero, List.drop_succ_cons, List.drop_zero]
      refine rel_fix rfl rfl ?_ ?_
      · apply Exists.intro
        apply Exists.intro
        refine ⟨fun wr => ?_, fun wr nr hJ => ?_⟩
        · go_simp
          first | exact ⟨rfl, rfl⟩ | rfl
        · exact HK0.out _ hJ
      simp only [Act.put, List.setIfInBounds_toArray, List.set_cons_succ, List.set_cons_zero]
      repeat
        refine relAt_det rfl rfl ?_
        apply Exists.intro
        refine ⟨fun wr nr hJ => ?_, ?_⟩
        · have qm := HM5.out.ext hJ (by simp); have qmc := qm.cell; have qml := qm.lt; clear qm
          clear hJ
          (go_simp; try go_bits)
          first | rfl | exact ⟨rfl, rfl⟩
        simp only [Act.put, List.setIfInBounds_toArray, List.set_cons_succ, List.set_cons_zero]
      refine rel_fix rfl rfl ?_ ?_
      · apply Exists.intro
        apply Exists.intro
        refine ⟨fun wr => ?_, fun wr nr hJ => ?_⟩
        · go_simp
          first | exact ⟨rfl, rfl⟩ | rfl
        · exact HK1.out _ hJ
      simp only [Act.put, List.setIfInBounds_toArray, List.set_cons_succ, List.set_cons_zero]
      repeat
        refine relAt_det rfl rfl ?_
        apply Exists.intro
        refine ⟨fun wr nr hJ => ?_, ?_⟩
        · have qm := HM5.out.ext hJ (by simp); have qmc := qm.cell; have qml := qm.lt; clear qm
          clear hJ
          (go_simp; try go_bits)
          first | rfl | exact ⟨rfl, rfl⟩
        simp only [Act.put, List.setIfInBounds_toArray, List.set_cons_succ, List.set_cons_zero]
      refine rel_fix rfl rfl ?_ ?_
      · apply Exists.intro
        apply Exists.intro
        refine ⟨fun wr => ?_, fun wr nr hJ => ?_⟩
        · go_simp
          first | exact ⟨rfl, rfl⟩ | rfl
        · exact HK2.out _ hJ
      simp only [Act.put, List.setIfInBounds_toArray, List.set_cons_succ, List.set_cons_zero]
      repeat
        refine relAt_det rfl rfl ?_
        apply Exists.intro
        refine ⟨fun wr nr hJ => ?_, ?_⟩
        · have qm := HM5.out.ext hJ (by simp); have qmc := qm.cell; have qml := qm.lt; clear qm
          clear hJ
          (go_simp; try go_bits)
          first | rfl | exact ⟨rfl, rfl⟩
        simp only [Act.put, List.setIfInBounds_toArray, List.set_cons_succ, List.set_cons_zero]
      refine rel_fix rfl rfl ?_ ?_
      · apply Exists.intro
        apply Exists.intro
        refine ⟨fun wr => ?_, fun wr nr hJ => ?_⟩
        · go_simp
          first | exact ⟨rfl, rfl⟩ | rfl
        · exact HK3.out _ hJ
      simp only [Act.put, List.setIfInBounds_toArray, List.set_cons_succ, List.set_cons_zero]
      repeat
        refine relAt_det rfl rfl ?_
        apply Exists.intro
        refine ⟨fun wr nr hJ => ?_, ?_⟩
        · have qm := HM5.out.ext hJ (by simp); have qmc := qm.cell; have qml := qm.lt; clear qm
          clear hJ
          (go_simp; try go_bits)
          first | rfl | exact ⟨rfl, rfl⟩
        simp only [Act.put, List.setIfInBounds_toArray, List.set_cons_succ, List.set_cons_zero]
      refine relAt_nil (fun w3 hJ hF => ?_)
      have HEX := hd hJ
      clear hF hJ
      go_wp2_with fail
      refine (HK4.out _ HEX.out).mono ?_
      rintro e w4 ⟨rfl, hE4⟩
      have HEX4 := hd (HEX.out.trans hE4)
      clear hE4
      go_wp2_with fail
      go_ret
      exact ⟨ret_bool (by simp), HEW.out.trans HEX4.out⟩
end Go.Proofs.Ytedabpldigcffaa
