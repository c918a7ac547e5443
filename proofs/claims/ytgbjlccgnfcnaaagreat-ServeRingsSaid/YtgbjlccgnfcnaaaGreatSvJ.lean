/- A model's bytes, and what Bytes answers (the walk). -/
import Derived.Test.YtgbjlccgnfcnaaaGreatSvI
namespace Go.Proofs.YtgbjlccgnfcnaaaGreat
open Go.RowKit
set_option linter.unusedSimpArgs false
set_option linter.unusedVariables false

theorem WrIn.mono {w : World} {base g m m' : Nat} (h : WrIn w base g m) (hm : m ≤ m') : WrIn w base g m' := by
  obtain ⟨v, n, h1, h2, h3⟩ := h
  exact ⟨v, n, h1, h2, by omega⟩
/-- List k of the demo model. -/
theorem Dm.list {w : World} {base : Nat} {D : Dm} (h : D.In w base) (k : Nat) (hk : k < 7) : ∃ b n c, D.cells[4 + k]? = some (.slice (some ⟨b, 0, none⟩) n c) ∧ IsL w b n (-128) 1000 ∧ n ≤ 48 := by
  match k, hk with
  | 0, _ => exact ⟨_, _, _, rfl, h.i0.wide (by omega) (by omega), by omega⟩
  | 1, _ => exact ⟨_, _, _, rfl, h.i1.wide (by omega) (by omega), by omega⟩
  | 2, _ => exact ⟨_, _, _, rfl, h.i2.wide (by omega) (by omega), by omega⟩
  | 3, _ => exact ⟨_, _, _, rfl, h.i3.wide (by omega) (by omega), by omega⟩
  | 4, _ => exact ⟨_, _, _, rfl, h.i4.wide (by omega) (by omega), by omega⟩
  | 5, _ => exact ⟨_, _, _, rfl, h.i5.wide (by omega) (by omega), by omega⟩
  | 6, _ => exact ⟨_, _, _, rfl, h.i6.wide (by omega) (by omega), by omega⟩
theorem ptrs_get (g k : Nat) (hk : k < 7) : (ptrs g)[k]? = some (.pointer (some ⟨g, 4 + k, none⟩)) := by
  match k, hk with
  | 0, _ => rfl
  | 1, _ => rfl
  | 2, _ => rfl
  | 3, _ => rfl
  | 4, _ => rfl
  | 5, _ => rfl
  | 6, _ => rfl
theorem four_get (k : Nat) (hk : k < 4) : ∃ x : Int, (#[.int .i64 1, .int .i64 8, .int .i64 4, .int .i64 8] : Array Value)[k]? = some (.int .i64 x) ∧ 1 ≤ x ∧ x ≤ 8 := by
  match k, hk with
  | 0, _ => exact ⟨_, rfl, by omega, by omega⟩
  | 1, _ => exact ⟨_, rfl, by omega, by omega⟩
  | 2, _ => exact ⟨_, rfl, by omega, by omega⟩
  | 3, _ => exact ⟨_, rfl, by omega, by omega⟩
/-- A new row of bytes, and nothing old has turned. -/
def BytP (w : World) (v : Value) (w' : World) : Prop := ∃ n, ByR w' w.heap.size v n ∧ n ≤ 5000 ∧ Ext [] w w'
set_option maxHeartbeats 4000000 in
set_option maxRecDepth 100000 in
theorem bytesOf_any (D : Dm) (base : Nat) (w : World) (h : D.In w base) : Calls Tryz.prog 79 #[.agg D.cells] w fun e w' => ∃ v, e = .returned v ∧ BytP w v w' := by
  have HL := hd (fun k hk => Dm.list h k hk)
  have HD := hd h
  clear h
  obtain ⟨b0, b1, b2, b3, b4, b5, b6, c0, c1, c2, c3, c4, c5, c6⟩ := D
  simp only [Dm.cells] at HL ⊢
  go_enter Tryz.func79, Tryz.ntmps79
  go_wp2_with fail
  generalize hW0 : World.alloc _ _ = W0
  have HB0 := hd (show Blk W0 w.heap.size 37 #[.int .i64 1, .int .i64 8, .int .i64 4, .int .i64 8, .slice (some ⟨b0, 0, none⟩) 4 c0, .slice (some ⟨b1, 0, none⟩) 32 c1, .slice (some ⟨b2, 0, none⟩) 16 c2, .slice (some ⟨b3, 0, none⟩) 48 c3, .slice (some ⟨b4, 0, none⟩) 32 c4, .slice (some ⟨b5, 0, none⟩) 7 c5, .slice (some ⟨b6, 0, none⟩) 6 c6] by subst hW0; exact ((Blk.new w _ _).alloc _).alloc _)
  have HB2 := hd (show Blk W0 (w.heap.size + 1 + 1) 3 #[.int .i64 1, .int .i64 8, .int .i64 4, .int .i64 8] by subst hW0; exact Blk.new' _ _ _ _ (by simp))
  have HW0 := hd (show WrIn W0 w.heap.size (w.heap.size + 1) (2 * 0) from ⟨_, 0, by subst hW0; exact (Blk.new' _ _ _ _ (by simp)).alloc _, ByR.nil _ _, Nat.zero_le _⟩)
  have HE0 := hd (show Ext [] w W0 by subst hW0; exact (((Ext.refl _ _).alloc _).alloc _).alloc _)
  have HZ0 : W0.heap.size = w.heap.size + 3 := by subst hW0; simp
  clear hW0
  obtain ⟨s, hs⟩ : ∃ s, w.heap.size = s := ⟨_, rfl⟩
  rw [hs] at HB0 HB2 HW0 HZ0 ⊢
  have HSZ := hd hs
  go_loopw [18] (fun i wr => ∃ k : Nat, i = .int .i64 k ∧ k ≤ 4 ∧ Hd (WrIn wr s (s + 1) (2 * k)) ∧ Hd (Kp s [s + 1] W0 wr)) (fun i _ => (4 - intOf i).toNat)
  case atStart => exact ⟨0, rfl, Nat.zero_le _, HW0, hd (Kp.refl _ _ _)⟩
  case round =>
    obtain ⟨k, rfl, hk, HW, HK⟩ := hrel
    rename World => wq
    have hwz := HK.o.size
    by_cases hlt : k < 4
    · have hb2 := HK.o.blk HB2.o (by simp <;> omega) (by decide)
      obtain ⟨x, hx, hx0, hx1⟩ := four_get k hlt
      have q := (hb2.cell k).trans hx
      have ql := hb2.lt
      clear hb2 hx
      go_wp2_with fail
      refine (number_any s (s + 1) (2 * k) x (by omega) wq HW.o (by omega) (by omega)).mono ?_
      rintro e w3 ⟨rfl, hW3, hK3⟩
      have HW3 := hd (hW3.mono (m' := 2 * (k + 1)) (by omega))
      have HK3 := hd (HK.o.trans hK3)
      clear hW3 hK3
      go_wp2_with fail
      go_roundw
      case rel => exact ⟨k + 1, by go_num, by omega, HW3, HK3⟩
      case measure => simp [intOf]; omega
    · have hkn : k = 4 := by omega
      subst hkn
      have hb0 := HK.o.blk HB0.o (by simp <;> omega) (by decide)
      have ql := hb0.lt
      have hc0 : ∀ i, i < 11 → ∃ v, wq.cell? ⟨s, i, none⟩ = some v := fun i hi => ⟨_, (hb0.cell i).trans (Array.getElem?_eq_getElem (by simp; omega))⟩
      have HB3 := hd hb0
      clear hb0
      go_wp2_with fail
      refine (lists_any s wq ql hc0).mono ?_
      rintro e w3 ⟨eb, rfl, hbe, hE, heb⟩
      have HBE := hd hbe
      have HW3 := hd (HW.o.ext hE (by simp))
      have HK3 := hd (HK.o.trans (Kp.of_ext hE (by simp)))
      have HB4 := hd (HB3.o.ext hE (by simp))
      have hz3 := hE.size
      clear hbe hE hc0
      go_wp2_with fail
      go_loopw [27] (fun i wr => ∃ k : Nat, i = .int .i64 k ∧ k ≤ 7 ∧ Hd (WrIn wr s (s + 1) (8 + 200 * k)) ∧ Hd (Kp s [s + 1] w3 wr)) (fun i _ => (7 - intOf i).toNat)
      case atStart => exact ⟨0, rfl, Nat.zero_le _, hd (HW3.o.mono (by omega)), hd (Kp.refl _ _ _)⟩
      case round =>
        obtain ⟨j, rfl, hj, HW5, HK5⟩ := hrel
        rename World => wy
        have hwz5 := HK5.o.size
        by_cases hlt5 : j < 7
        · have hbe5 := HK5.o.blk HBE.o (by simp; omega) (by decide)
          have hb05 := HK5.o.blk HB4.o (by simp <;> omega) (by decide)
          obtain ⟨b, n, c, hx, hI, hn⟩ := HL.o j hlt5
          have q := (hbe5.cell j).trans (ptrs_get s j hlt5)
          have q2 := (hb05.cell (4 + j)).trans hx
          have ql2 := hb05.lt
          have ql3 := hbe5.lt
          have hbl := hI.lt
          have hI3 := hd (HK5.o.isL (HK3.o.isL (hI.ext HE0.o (by simp)) (by omega) (by simp; omega)) (by omega) (by simp; omega))
          clear hbe5 hb05 hx hI
          go_wp2_with fail
          refine (list_any s (s + 1) (8 + 200 * j) b n c wy HW5.o hI3.o (by omega) (by omega) (by omega) (by omega) (by omega)).mono ?_
          rintro e w6 ⟨rfl, hW6, hK6⟩
          have HW6 := hd (hW6.mono (m' := 8 + 200 * (j + 1)) (by omega))
          have HK6 := hd (HK5.o.trans hK6)
          clear hW6 hK6
          go_wp2_with fail
          go_roundw
          case rel => exact ⟨j + 1, by go_num, by omega, HW6, HK6⟩
          case measure => simp [intOf]; omega
        · obtain ⟨v, n, hB, hR, hn⟩ := HW5.o
          have q := hB.cell 0
          have ql4 := hB.lt
          obtain ⟨A, cap, hv, hcap, hg⟩ := hR.form
          subst hv
          have HR := hd hR
          have hw := hd (((HK3.o.trans HK5.o).ext HE0.o (by omega) (by simp; omega)) : Ext [] w wy)
          clear hB hR hg
          go_wp2_with fail
          go_ret
          exact ⟨_, rfl, n, by rw [HSZ.o]; exact HR.o, by omega, hw.o⟩
theorem vocabulary_any (D : Dm) (base : Nat) (w : World) (h : D.In w base) : Calls Tryz.prog 32 #[.agg D.cells] w fun e w' => e = .returned (.tuple #[.int .i64 8, .int .i64 0]) ∧ Ext [] w w' := by
  have HC := hd (fun W hW => mcheck_any D base W hW)
  have HD := hd h
  clear h
  obtain ⟨b0, b1, b2, b3, b4, b5, b6, c0, c1, c2, c3, c4, c5, c6⟩ := D
  simp only [Dm.cells] at HC ⊢
  have HB := hd (Blk.new w 37 #[.int .i64 1, .int .i64 8, .int .i64 4, .int .i64 8, .slice (some ⟨b0, 0, none⟩) 4 c0, .slice (some ⟨b1, 0, none⟩) 32 c1, .slice (some ⟨b2, 0, none⟩) 16 c2, .slice (some ⟨b3, 0, none⟩) 48 c3, .slice (some ⟨b4, 0, none⟩) 32 c4, .slice (some ⟨b5, 0, none⟩) 7 c5, .slice (some ⟨b6, 0, none⟩) 6 c6])
  have HE := hd ((Ext.refl [] w).alloc (.cells #[.int .i64 1, .int .i64 8, .int .i64 4, .int .i64 8, .slice (some ⟨b0, 0, none⟩) 4 c0, .slice (some ⟨b1, 0, none⟩) 32 c1, .slice (some ⟨b2, 0, none⟩) 16 c2, .slice (some ⟨b3, 0, none⟩) 48 c3, .slice (some ⟨b4, 0, none⟩) 32 c4, .slice (some ⟨b5, 0, none⟩) 7 c5, .slice (some ⟨b6, 0, none⟩) 6 c6] 37))
  go_enter Tryz.func32, Tryz.ntmps32
  go_wp2_with fail
  refine (HC.o _ (HD.o.ext HE.o (by simp))).mono ?_
  rintro e w1 ⟨rfl, hE⟩
  have q := (HB.o.ext hE (by simp)).cell
  have ql := (HB.o.ext hE (by simp)).lt
  have HE1 := hd (HE.o.trans hE)
  clear hE
  go_wp2_with fail
  go_ret2
  exact ⟨rfl, HE1.o⟩
set_option maxRecDepth 100000 in
theorem bytes_any (D : Dm) (base : Nat) (w : World) (h : D.In w base) : Calls Tryz.prog 57 #[.agg D.cells] w fun e w' => ∃ v, e = .returned (.tuple #[v, .int .i64 0]) ∧ BytP w v w' := by
  have HC := hd (fun W hW => mcheck_any D base W hW)
  have HY := hd (fun W hW => bytesOf_any D base W hW)
  have HD := hd h
  clear h
  obtain ⟨b0, b1, b2, b3, b4, b5, b6, c0, c1, c2, c3, c4, c5, c6⟩ := D
  simp only [Dm.cells] at HC HY ⊢
  have HB := hd (Blk.new w 37 #[.int .i64 1, .int .i64 8, .int .i64 4, .int .i64 8, .slice (some ⟨b0, 0, none⟩) 4 c0, .slice (some ⟨b1, 0, none⟩) 32 c1, .slice (some ⟨b2, 0, none⟩) 16 c2, .slice (some ⟨b3, 0, none⟩) 48 c3, .slice (some ⟨b4, 0, none⟩) 32 c4, .slice (some ⟨b5, 0, none⟩) 7 c5, .slice (some ⟨b6, 0, none⟩) 6 c6])
  have HE := hd ((Ext.refl [] w).alloc (.cells #[.int .i64 1, .int .i64 8, .int .i64 4, .int .i64 8, .slice (some ⟨b0, 0, none⟩) 4 c0, .slice (some ⟨b1, 0, none⟩) 32 c1, .slice (some ⟨b2, 0, none⟩) 16 c2, .slice (some ⟨b3, 0, none⟩) 48 c3, .slice (some ⟨b4, 0, none⟩) 32 c4, .slice (some ⟨b5, 0, none⟩) 7 c5, .slice (some ⟨b6, 0, none⟩) 6 c6] 37))
  go_enter Tryz.func57, Tryz.ntmps57
  go_wp2_with fail
  refine (HC.o _ (HD.o.ext HE.o (by simp))).mono ?_
  rintro e w1 ⟨rfl, hE⟩
  have q := (HB.o.ext hE (by simp)).cell
  have ql := (HB.o.ext hE (by simp)).lt
  have HE1 := hd (HE.o.trans hE)
  clear hE
  go_wp2_with fail
  refine (HY.o _ (HD.o.ext HE1.o (by simp))).mono ?_
  rintro e w2 ⟨v, rfl, n, hR, hn, hE⟩
  have HR := hd (hR.low HE1.o.size)
  have HE2 := hd (HE1.o.trans hE)
  obtain ⟨A, cap, hv, hcap, hg⟩ := hR.form
  subst hv
  clear hE hR hg
  go_wp2_with fail
  go_ret2
  exact ⟨_, rfl, n, HR.o, hn, HE2.o⟩
end Go.Proofs.YtgbjlccgnfcnaaaGreat
