/- slices.Repeat of an instruction, the walk. -/
import Derived.Test.YthfhbbbgealclaaLimA
namespace Go.Proofs.Ythfhbbbgealclaa
open Go.RowKit
set_option linter.unusedSimpArgs false
set_option linter.unusedVariables false
attribute [local irreducible] relAt

def sJ (m : Nat) : Spec := ⟨Unit, (), fun _ => .int .i64 m, fun _ _ => True⟩
def JC (B n : Nat) (w0 : World) (_ : Nat) (w : World) : Prop := CodeB w B n ∧ Ext [B] w0 w
theorem CodeB.lt {w : World} {b n : Nat} (h : CodeB w b n) : b < w.heap.size := by obtain ⟨xs, _, hB⟩ := h; exact hB.lt
set_option maxHeartbeats 1000000 in
set_option maxRecDepth 100000 in
theorem repeat_any (b cap : Nat) (x : Ins) (n : Nat) (h : n = 15 ∨ n = 16 ∨ n = 17) (w : World) (hx : Blk w b 29 (codeCells [x]).toArray) :
    Calls Try.prog 10 #[.slice (some ⟨b, 0, none⟩) 1 cap, .int .i64 n] w fun e w' => ∃ B : Nat, e = .returned (.slice (some ⟨B, 0, none⟩) n n) ∧ Ext [] w w' ∧ CodeB w' B n := by
  have h15 : 15 ≤ n ∧ n ≤ 17 := by omega
  have hn1 : 15 ≤ n := h15.1
  have hn2 : n ≤ 17 := h15.2
  obtain ⟨i0, hi0, hz0, hz1, hz2⟩ := info_parts Try.info29
  have hz : madeCells #[.int .i64 0, .int .i64 0, .int .i64 0, .int .i64 0, .int .i64 0, .int .i64 0, .int .i64 0, .int .i64 0, .int .i64 0] (n * 9) = (codeCells (List.replicate n zI)).toArray := by
    rcases h with rfl | rfl | rfl <;> kernel_rfl
  have hmk : ∀ W : World, (Instr.makeSlice 26 (.int .i64 n) (.int .i64 n)).run Try.prog W = .ok (.slice (some ⟨W.heap.size, 0, none⟩) n n) (W.alloc (.cells (codeCells (List.replicate n zI)).toArray 29)) := fun W => by
    rw [← hz]
    have hr := run_make (P := Try.prog) W 26 29 i0 _ Try.underlying26 hi0 hz0 .i64 .i64 n n (by omega) (Int.le_refl _) (by rw [hz2]; omega) (by omega)
    simp only [Int.toNat_natCast, hz1] at hr
    exact hr
  have hCB0 : CodeB (w.alloc (.cells (codeCells (List.replicate n zI)).toArray 29)) w.heap.size n := ⟨_, by simp, Blk.new _ _ _⟩
  obtain ⟨w2, hcp, hCB, hE2⟩ := copy_code (c1 := n) (c2 := cap) (o := 0) (k := 1) (b2 := b) (d := 0) hCB0 [x] rfl (fun j v hv => by rw [Nat.zero_add, (hx.alloc _).cell]; simpa using hv) 3 n 1 (by show min 1 n = 1; omega) (by omega)
  rw [Nat.zero_mul] at hcp
  have HE2 : Hd (Ext [] w w2) := hd (((Ext.refl [] w).alloc _).step hE2 (fun i hi => .inr (by rw [List.mem_singleton.1 hi]; exact Nat.le_refl _)))
  have HCB := hd hCB
  have HM := hd (mul_small n (by omega) w)
  clear hCB0 hE2 hCB hz hx
  generalize codeCells (List.replicate n zI) = zs at *
  go_enter Try.func10, Try.ntmps10
  go_wp2_with fail
  refine HM.out.mono ?_
  rintro e w1 ⟨rfl, rfl⟩
  go_wp2_with fail
  go_loopw [8] (fun v wr => ∃ j : Nat, v = .int .i64 j ∧ 1 ≤ j ∧ j ≤ n ∧ Hd (CodeB wr w1.heap.size n) ∧ Ext [] w1 wr) (fun v _ => (n - intOf v).toNat)
  case atStart => exact ⟨1, rfl, by omega, by omega, HCB, HE2.out⟩
  case round =>
    obtain ⟨j, rfl, hj1, hjn, hC, hE⟩ := hrel
    have HE := hd hE
    clear hE
    by_cases hlt : j < n
    · obtain ⟨m, hm⟩ : ∃ m : Nat, m = min j (n - j) := ⟨_, rfl⟩
      have hm1 : 1 ≤ m ∧ j + m ≤ n := by omega
      have hne : ¬ n = j := by omega
      go_wp2_with fail
      refine wp_region_rel 8 (JC w1.heap.size n wr) (Ext [w1.heap.size]) (kinds [(7, sJ m)]) (by kernel_rfl) (by kernel_rfl) (fun _ _ h => h) ?_ ⟨hC.out, (Ext.refl _ _).drew⟩ ?_
      · exact Stays.cons (fun _ _ _ _ h => h) Stays.nil
      simp only [List.take_succ_cons, List.take_zero, List.drop_succ_cons, List.drop_zero]
      repeat
        refine relAt_det rfl rfl ?_
        apply Exists.intro
        refine ⟨fun wr nr hJ => ?_, ?_⟩
        · skip
          clear hJ
          (go_simp; try go_bits)
          first | rfl | exact ⟨rfl, rfl⟩
        simp only [Act.put, List.setIfInBounds_toArray, List.set_cons_succ, List.set_cons_zero]
      refine relAt_value (sJ m) rfl rfl ?_ ?_
      · intro wr2 nr hJ _
        obtain ⟨hCB, hE⟩ := hJ
        obtain ⟨xs, hxl, hxB⟩ := hCB
        obtain ⟨w3, hr, hC3, hE3⟩ := copy_code (c1 := n - j) (c2 := n) (o := j) (k := m) (b2 := w1.heap.size) (d := 0) ⟨xs, hxl, hxB⟩ (xs.take m) (by simp; omega) (fun i v hv => by
          rw [Nat.zero_add, hxB.cell]
          rw [← codeCells_take, List.getElem?_take] at hv
          split at hv
          · simpa using hv
          · cases hv) 3 (n - j) j (by show min j (n - j) = m; omega) (by omega)
        refine ⟨(), w3, ?_, trivial, ⟨hC3, hE.trans hE3⟩, hE3⟩
        clear hC3 hE3 hxB
        go_simp
        show Value.int .i64 ((min j (n - j) : Nat) : Int) = Value.int .i64 (m : Int)
        rw [← hm]
      intro _
      simp only [Act.put, List.setIfInBounds_toArray, List.set_cons_succ, List.set_cons_zero]
      dsimp only [sJ]
      refine relAt_nil (fun w4 hJ hF => ?_)
      have HC4 := hd hJ.1
      have HE4 : Hd (Ext [] w1 w4) := hd (HE.out.step hJ.2 (fun i hi => .inr (by rw [List.mem_singleton.1 hi]; exact Nat.le_refl _)))
      clear hJ hF
      go_wp2_with fail
      go_round
      case rel => exact ⟨j + m, by go_num, by omega, by omega, HC4, HE4.out⟩
      case measure => simp [intOf]; omega
    · have hjn2 : j = n := by omega
      subst hjn2
      go_wp2_with fail
      go_ret
      exact ⟨_, rfl, HE.out, hC.out⟩
end Go.Proofs.Ythfhbbbgealclaa
