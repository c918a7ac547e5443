/- Package models: Check, at the demo model (the walk). -/
import Derived.Test.YtgbjlccgnfcnaaaGreatSvE
namespace Go.Proofs.YtgbjlccgnfcnaaaGreat
open Go.RowKit
set_option linter.unusedSimpArgs false
set_option linter.unusedVariables false

set_option maxHeartbeats 1000000 in
set_option maxRecDepth 100000 in
theorem formed_any (D : Dm) (w : World) : Calls Tryz.prog 76 #[.agg D.cells] w fun e w' => e = .returned (.bool true) ∧ Ext [] w w' := by
  obtain ⟨b0, b1, b2, b3, b4, b5, b6, c0, c1, c2, c3, c4, c5, c6⟩ := D
  simp only [Dm.cells]
  go_enter Tryz.func76, Tryz.ntmps76
  go_wp2_with fail
  refine (rows_any 16 4 4 _ _ _ rfl (by omega) (by omega) (by omega)).mono ?_
  rintro e w' ⟨rfl, rfl⟩
  go_wp2_with (go_at_call 75; refine (mwithin_any _ _ _ _).mono ?_; rintro e w' ⟨rfl, rfl⟩; rw [show inB _ _ _ = true from rfl])
  go_ret
  exact ⟨rfl, (Ext.refl _ _).alloc _⟩
set_option maxHeartbeats 2000000 in
set_option maxRecDepth 100000 in
theorem mcheck_any (D : Dm) (base : Nat) (w : World) (h : D.In w base) : Calls Tryz.prog 56 #[.agg D.cells] w fun e w' => e = .returned (.int .i64 0) ∧ Ext [] w w' := by
  have H := hd h
  have HFM := hd (fun W => formed_any D W)
  obtain ⟨b0, b1, b2, b3, b4, b5, b6, c0, c1, c2, c3, c4, c5, c6⟩ := D
  simp only [Dm.cells] at *
  clear h
  go_enter Tryz.func56, Tryz.ntmps56
  go_wp2_with fail
  refine (sized_any _).mono ?_
  rintro e w' ⟨rfl, rfl⟩
  go_wp2_with (go_at_call 75; refine (mwithin_any _ _ _ _).mono ?_; rintro e w' ⟨rfl, rfl⟩; rw [show inB _ _ _ = true from rfl])
  have HB0 := hd (Blk.new w 37 #[.int .i64 1, .int .i64 8, .int .i64 4, .int .i64 8, .slice (some ⟨b0, 0, none⟩) 4 c0, .slice (some ⟨b1, 0, none⟩) 32 c1, .slice (some ⟨b2, 0, none⟩) 16 c2, .slice (some ⟨b3, 0, none⟩) 48 c3, .slice (some ⟨b4, 0, none⟩) 32 c4, .slice (some ⟨b5, 0, none⟩) 7 c5, .slice (some ⟨b6, 0, none⟩) 6 c6])
  have HE0 := hd ((Ext.refl [] w).alloc (.cells #[.int .i64 1, .int .i64 8, .int .i64 4, .int .i64 8, .slice (some ⟨b0, 0, none⟩) 4 c0, .slice (some ⟨b1, 0, none⟩) 32 c1, .slice (some ⟨b2, 0, none⟩) 16 c2, .slice (some ⟨b3, 0, none⟩) 48 c3, .slice (some ⟨b4, 0, none⟩) 32 c4, .slice (some ⟨b5, 0, none⟩) 7 c5, .slice (some ⟨b6, 0, none⟩) 6 c6] 37))
  have HL0 := hd (H.o.ext HE0.o (by simp))
  refine (HFM.o _).mono ?_
  rintro e w1 ⟨rfl, hE⟩
  have HB1 := hd (HB0.o.ext hE (by simp))
  have HE1 := hd (HE0.o.trans hE)
  have HL1 := hd (HL0.o.ext hE (by simp))
  have q1 := HB1.o.cell
  have q1l := HB1.o.lt
  clear hE HFM H
  go_wp2_with fail
  have HX := hd ((Ext.refl [] w1).alloc (.cells #[.slice (some ⟨b1, 0, none⟩) 32 c1, .slice (some ⟨b2, 0, none⟩) 16 c2, .slice (some ⟨b3, 0, none⟩) 48 c3, .slice (some ⟨b4, 0, none⟩) 32 c4] 22))
  refine (concatI_any w1.heap.size 4 4 128 [(b1, 32, c1), (b2, 16, c2), (b3, 48, c3), (b4, 32, c4)] _ ?_ rfl (by omega) (by omega) rfl (by omega) (by simp)).mono ?_
  · have hS := Blk.new w1 22 #[.slice (some ⟨b1, 0, none⟩) 32 c1, .slice (some ⟨b2, 0, none⟩) 16 c2, .slice (some ⟨b3, 0, none⟩) 48 c3, .slice (some ⟨b4, 0, none⟩) 32 c4]
    have L := HL1.o.ext HX.o (by simp)
    intro i x hx
    match i, hx with
    | 0, hx => cases hx; exact ⟨by rw [hS.cell]; rfl, L.i1, by simp, by simp⟩
    | 1, hx => cases hx; exact ⟨by rw [hS.cell]; rfl, L.i2, by simp, by simp⟩
    | 2, hx => cases hx; exact ⟨by rw [hS.cell]; rfl, L.i3, by simp, by simp⟩
    | 3, hx => cases hx; exact ⟨by rw [hS.cell]; rfl, L.i4, by simp, by simp⟩
    | i + 4, hx => simp at hx
  rintro e w2 ⟨g, gc, rfl, hE, hI⟩
  have HB2 := hd (HB1.o.ext (HX.o.trans hE) (by simp))
  have HE2 := hd (HE1.o.trans (HX.o.trans hE))
  have HL2 := hd (HL1.o.ext (HX.o.trans hE) (by simp))
  have HI2 := hd hI
  have q2 := HB2.o.cell
  have q2l := HB2.o.lt
  clear hE hI q1 q1l HX
  go_wp2_with fail
  refine (all_any b0 4 c0 1 15 _ _ _ HL2.o.i0 (by omega) (by omega) (by omega)).mono ?_
  rintro e w3 ⟨rfl, hE⟩
  have HB3 := hd (HB2.o.ext hE (by simp))
  have HE3 := hd (HE2.o.trans hE)
  have HL3 := hd (HL2.o.ext hE (by simp))
  have HI3 := hd (HI2.o.ext hE (by simp))
  have q3 := HB3.o.cell
  have q3l := HB3.o.lt
  clear hE q2 q2l
  go_wp2_with fail
  refine (all_any g 128 gc (-128) 127 _ _ _ HI3.o (by omega) (by omega) (by omega)).mono ?_
  rintro e w4 ⟨rfl, hE⟩
  have HB4 := hd (HB3.o.ext hE (by simp))
  have HE4 := hd (HE3.o.trans hE)
  have HL4 := hd (HL3.o.ext hE (by simp))
  have HI4 := hd (HI3.o.ext hE (by simp))
  have q4 := HB4.o.cell
  have q4l := HB4.o.lt
  clear hE q3 q3l
  go_wp2_with fail
  refine (all_any b5 7 c5 0 1000 _ _ _ HL4.o.i5 (by omega) (by omega) (by omega)).mono ?_
  rintro e w5 ⟨rfl, hE⟩
  have HB5 := hd (HB4.o.ext hE (by simp))
  have HE5 := hd (HE4.o.trans hE)
  have HL5 := hd (HL4.o.ext hE (by simp))
  have HI5 := hd (HI4.o.ext hE (by simp))
  have q5 := HB5.o.cell
  have q5l := HB5.o.lt
  clear hE q4 q4l
  go_wp2_with fail
  refine (all_any b6 6 c6 0 1000 _ _ _ HL5.o.i6 (by omega) (by omega) (by omega)).mono ?_
  rintro e w6 ⟨rfl, hE⟩
  have HB6 := hd (HB5.o.ext hE (by simp))
  have HE6 := hd (HE5.o.trans hE)
  have HL6 := hd (HL5.o.ext hE (by simp))
  have HI6 := hd (HI5.o.ext hE (by simp))
  have q6 := HB6.o.cell
  have q6l := HB6.o.lt
  clear hE q5 q5l
  obtain ⟨x0, hx0, hx1, hxb⟩ : ∃ x : Int, w6.cell? ⟨b6, 0, none⟩ = some (.int .i64 x) ∧ (x == 0) = false ∧ b6 < w6.heap.size := by
    obtain ⟨xs, a1, a2, a3, a4⟩ := HL6.o.i6
    dsimp only at a1 a2 a3 a4
    have hk : 0 < xs.length := by omega
    have h9 := a3 _ (List.getElem_mem hk)
    exact ⟨_, a1 0 _ (List.getElem?_eq_getElem hk), by simp; omega, a4⟩
  go_wp2_with fail
  go_ret
  exact ⟨rfl, HE6.o⟩
end Go.Proofs.YtgbjlccgnfcnaaaGreat
