/- Package models: the demo model (the walk). -/
import Derived.Test.YtgbjlccgnfcnaaaGreatSvB
namespace Go.Proofs.YtgbjlccgnfcnaaaGreat
open Go.RowKit
set_option linter.unusedSimpArgs false
set_option linter.unusedVariables false

set_option maxHeartbeats 4000000 in
set_option maxRecDepth 100000 in
theorem demo_any (w : World) : Calls Tryz.prog 11 #[] w fun e w' => ∃ D : Dm, e = .returned (.agg D.cells) ∧ D.In w' w.heap.size ∧ Ext [] w w' := by
  go_enter Tryz.func11, Tryz.ntmps11
  go_wp2_with fail
  refine (make_any _).mono ?_
  rintro e w1 ⟨D, rfl, hD, hE⟩
  have hb := (Blk.new w 37 zMd).ext hE (by simp)
  dsimp only [zMd] at hb
  have qc := hb.cell
  have ql := hb.lt
  have qf := hb.frozen
  have HB := hd hb
  have HD := hd hD
  have HE := hd (((Ext.refl [] w).alloc _).trans hE)
  obtain ⟨b0, b1, b2, b3, b4, b5, b6, c0, c1, c2, c3, c4, c5, c6⟩ := D
  have HBB := hd ((Blk.all11 HB.o (.int .i64 1) (.int .i64 8) (.int .i64 4) (.int .i64 8) (.slice (some ⟨b0, 0, none⟩) 4 c0) (.slice (some ⟨b1, 0, none⟩) 32 c1) (.slice (some ⟨b2, 0, none⟩) 16 c2) (.slice (some ⟨b3, 0, none⟩) 48 c3) (.slice (some ⟨b4, 0, none⟩) 32 c4) (.slice (some ⟨b5, 0, none⟩) 7 c5) (.slice (some ⟨b6, 0, none⟩) 6 c6)).alloc (.cells #[.int .i64 1, .int .i64 8, .int .i64 4, .int .i64 8, .slice (some ⟨b0, 0, none⟩) 4 c0, .slice (some ⟨b1, 0, none⟩) 32 c1, .slice (some ⟨b2, 0, none⟩) 16 c2, .slice (some ⟨b3, 0, none⟩) 48 c3, .slice (some ⟨b4, 0, none⟩) 32 c4, .slice (some ⟨b5, 0, none⟩) 7 c5, .slice (some ⟨b6, 0, none⟩) 6 c6] 37))
  dsimp only [Dm.cells]
  clear hD hE hb
  go_wp2_with fail
  exact bodyPost_ret (results_md1 rfl _ _ w.heap.size ⟨b0, b1, b2, b3, b4, b5, b6, c0, c1, c2, c3, c4, c5, c6⟩ rfl HBB.o) rfl ⟨_, rfl, (HD.o.ext (((Ext.refl [w.heap.size] w1).all11 (.inl (by simp)) _ _ _ _ _ _ _ _ _ _ _).alloc _) (fun x hx => .inl (by simp at hx; simp; omega))).less (by simp), (HE.o.all11 (.inr (Nat.le_refl _)) _ _ _ _ _ _ _ _ _ _ _).alloc _⟩
end Go.Proofs.YtgbjlccgnfcnaaaGreat
