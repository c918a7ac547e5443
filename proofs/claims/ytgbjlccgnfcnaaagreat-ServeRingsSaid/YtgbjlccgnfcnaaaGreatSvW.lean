/- Package serve works: serves (the walk). -/
import Derived.Test.YtgbjlccgnfcnaaaGreatSvV
namespace Go.Proofs.YtgbjlccgnfcnaaaGreat
open Go.RowKit
set_option linter.unusedSimpArgs false
set_option linter.unusedVariables false
attribute [local irreducible] relAt

set_option maxHeartbeats 8000000 in
set_option maxRecDepth 100000 in
theorem serves_any (w : World) : Calls Tryz.prog 7 #[] w fun e w' => e = .returned (.bool true) ∧ Ext [] w w' := by
  go_enter Tryz.func7, Tryz.ntmps7
  go_wp2_with fail
  refine (demo_any w).mono ?_
  rintro e w1 ⟨D, rfl, hD, hE⟩
  have HN := hd (snew_any D w.heap.size w1 hD hE.size)
  have HE1 := hd hE
  simp only [cfV] at HN
  clear hD hE
  go_wp2_with fail
  refine HN.o.mono ?_
  rintro e w2 ⟨s, mb, pb, g, lc, D2, rfl, hS, hL, hM, hP, hs, hmb, hpb, hE⟩
  have HS2 := hd (show SrvIn w2 w1.heap.size s mb pb D2 0 0 28 (.slice (some ⟨g, 0, none⟩) 28 lc) 28 from ⟨hS, hL, hs⟩)
  have HM2 := hd (TMap.empty hM)
  have HP2 := hd (show Blk w2 pb 100 pg0 from hP)
  have HE2 := hd hE
  clear hS hL hM hP hE HN
  have HA2 := hd ((Ext.refl [] w2).alloc (.cells #[.int .i64 1] 3))
  have HO2 := hd (show One1 (w2.alloc (.cells #[.int .i64 1] 3)) w2.heap.size from ⟨_, Blk.new _ _ _, rfl⟩)
  have hz2 := HE2.o.size
  have HSUB := hd (fun c => submit_any w1.heap.size s mb pb w2.heap.size c D2 28 (.slice (some ⟨g, 0, none⟩) 28 lc) 28 pg0 (w2.alloc (.cells #[.int .i64 1] 3)) ⟨HS2.o.srv.ext HA2.o (by simp), HS2.o.log.ext HA2.o (by simp), HS2.o.lo⟩ (HM2.o.ext HA2.o (by simp)) (HP2.o.ext HA2.o (by simp)) HO2.o (by omega) (by simp; omega) ⟨hmb, hpb⟩)
  simp only [rq0] at HSUB
  go_wp2_with fail
  refine (HSUB.o _).mono ?_
  rintro e w3 ⟨rfl, r, tg, tc, ln3, lv3, pv, h3, hln, hK⟩
  have H3 := hd h3
  have HK3 := hd hK
  have hz3 := hK.size
  simp at hz3
  clear h3 hK HSUB
  go_wp2_with fail
  refine (waiting_any _ s mb pb r tg tc ln3 D2 0 1 28 0 lv3 pv _ false false pg0 w3 H3.o).mono ?_
  rintro e w4 ⟨g4, c4, rfl, hg, hE⟩
  have HG4 := hd hg
  have H4 := hd (H3.o.ext hE)
  have HE4 := hd hE
  clear hg hE
  have HU4 := hd (Blk.new w4 3 #[.int .i64 3])
  have HA4 := hd ((Ext.refl [] w4).alloc (.cells #[.int .i64 3] 3))
  go_wp2_with fail
  refine (equal1_any g4 w4.heap.size c4 1 3 _ (HA4.o.held HG4.o (by simp)) (HU4.o.cell 0)).mono ?_
  rintro e w5 ⟨rfl, hE⟩
  have H5 := hd ((H4.o.ext HA4.o).ext hE)
  have HE5 := hd ((HE4.o.trans HA4.o).trans hE)
  have hz5 := HE5.o.size
  clear hE
  go_wp2_with fail
  refine (tick_any w1.heap.size s mb pb r tg tc ln3 D2 28 lv3 pv w5 H5.o (by omega) (by omega)).mono ?_
  rintro e w6 ⟨rfl, lv6, ln6, hv6, pgc6, h6, hK⟩
  have H6 := hd h6
  have HK6 := hd hK
  clear h6 hK
  go_wp2_with fail
  refine (now_any s 1 w6 ⟨_, H6.o.sv.srv.cell 0⟩ (H6.o.sv.srv.cell 16)).mono ?_
  rintro e w7 ⟨rfl, rfl⟩
  go_wp2_with fail
  refine (cancel_any _ s mb pb r tg tc ln6 D2 1 2 28 1 lv6 pv hv6 true false pgc6 _ H6.o).mono ?_
  rintro e w7 ⟨rfl, rfl⟩
  go_wp2_with fail
  go_ret
  refine ⟨rfl, ?_⟩
  have hlo := H6.o.lo
  have hls := H6.o.sv.lo
  have e3 : Ext [] w1 w3 := HK3.o.ext (HE2.o.trans HA2.o) (Nat.le_refl _) (fun x hx => .inr (by simp at hx; omega))
  have e6 : Ext [] w1 w6 := HK6.o.ext (e3.trans HE5.o) (Nat.le_refl _) (fun x hx => .inr (by simp at hx; omega))
  exact HE1.o.trans e6
end Go.Proofs.YtgbjlccgnfcnaaaGreat
