/- The stream's machines. -/
import Derived.Test.YtedabpldigcffaaDraw
import Derived.Test.YtedabpldigcffaaCheckC
namespace Go.Proofs.Ytedabpldigcffaa
open Go.RowKit
set_option linter.unusedSimpArgs false
set_option linter.unusedVariables false

section
variable {w a : World} {b base g n : Nat} {S : List Nat} {t : TypeId}
theorem Blk.all5 {x0 x1 x2 x3 x4 : Value} (h : Blk w b t #[x0, x1, x2, x3, x4]) (y0 y1 y2 y3 y4 : Value) :
    Blk (((((w.setCell ⟨b, 0, none⟩ y0).setCell ⟨b, 1, none⟩ y1).setCell ⟨b, 2, none⟩ y2).setCell ⟨b, 3, none⟩ y3).setCell ⟨b, 4, none⟩ y4) b t #[y0, y1, y2, y3, y4] := by
  have h0 := h.set_' 0 y0 #[y0, x1, x2, x3, x4] rfl
  have h1 := h0.set_' 1 y1 #[y0, y1, x2, x3, x4] rfl
  have h2 := h1.set_' 2 y2 #[y0, y1, y2, x3, x4] rfl
  have h3 := h2.set_' 3 y3 #[y0, y1, y2, y3, x4] rfl
  exact h3.set_' 4 y4 #[y0, y1, y2, y3, y4] rfl
theorem Ext.setAt5 (h : Ext S a w) (hb : b ∈ S ∨ a.heap.size ≤ b) (y0 y1 y2 y3 y4 : Value) :
    Ext S a (((((w.setCell ⟨b, 0, none⟩ y0).setCell ⟨b, 1, none⟩ y1).setCell ⟨b, 2, none⟩ y2).setCell ⟨b, 3, none⟩ y3).setCell ⟨b, 4, none⟩ y4) :=
  Ext.setAt hb (Ext.setAt hb (Ext.setAt hb (Ext.setAt hb (Ext.setAt hb h))))
theorem Stm.setAt5 (h : Stm w base g n) (hg : g ≠ b) (hb : base ≤ b) (y0 y1 y2 y3 y4 : Value) :
    Stm (((((w.setCell ⟨b, 0, none⟩ y0).setCell ⟨b, 1, none⟩ y1).setCell ⟨b, 2, none⟩ y2).setCell ⟨b, 3, none⟩ y3).setCell ⟨b, 4, none⟩ y4) base g n :=
  Stm.setAt hg hb (Stm.setAt hg hb (Stm.setAt hg hb (Stm.setAt hg hb (Stm.setAt hg hb h))))
end

set_option maxHeartbeats 4000000 in
set_option maxRecDepth 100000 in
theorem machine_any (base g n : Nat) (w : World) (h : Stm w base g (n + 20)) :
    Calls Try.prog 47 #[.pointer (some ⟨g, 0, none⟩)] w fun e w' => ∃ m : Mc, e = .returned (.agg m.cells.toArray) ∧ Ext [g] w w' ∧ Stm w' base g n := by
  have HG := hd h.lt
  have HBW : Hd (base ≤ w.heap.size) := hd (Nat.le_trans h.base (Nat.le_of_lt h.lt))
  have HR0 := hd (Blk.new w 40 #[.int .i64 0, .int .i64 0, .int .i64 0, .int .i64 0, .int .i64 0])
  have HS0 := hd (h.alloc (.cells #[.int .i64 0, .int .i64 0, .int .i64 0, .int .i64 0, .int .i64 0] 40))
  have HE0 : Hd (Ext [g] w (w.alloc (.cells #[.int .i64 0, .int .i64 0, .int .i64 0, .int .i64 0, .int .i64 0] 40))) := hd ((Ext.refl _ _).alloc _)
  clear h
  go_enter Try.func47, Try.ntmps47
  go_wp2_with fail
  refine (range_any base g (n + 18) 24 64 _ (HS0.out.less (by omega)) (by omega) (by omega)).mono ?_
  rintro e w1 ⟨r1, rfl, _, hE, hS⟩
  have HE1 := hd (HE0.out.trans hE)
  have HS1 := hd hS
  have HR1 := hd (HR0.out.ext hE (by have := HG.out; simp; omega))
  clear hE hS
  go_wp2_with fail
  refine (range_any base g (n + 17) 2 3 _ (HS1.out.less (by omega)) (by omega) (by omega)).mono ?_
  rintro e w2 ⟨r2, rfl, _, hE, hS⟩
  have HE2 := hd (HE1.out.trans hE)
  have HS2 := hd hS
  have HR2 := hd (HR1.out.ext hE (by have := HG.out; simp; omega))
  clear hE hS
  go_wp2_with fail
  refine (range_any base g (n + 16) 2 4 _ (HS2.out.less (by omega)) (by omega) (by omega)).mono ?_
  rintro e w3 ⟨r3, rfl, _, hE, hS⟩
  have HE3 := hd (HE2.out.trans hE)
  have HS3 := hd hS
  have HR3 := hd (HR2.out.ext hE (by have := HG.out; simp; omega))
  clear hE hS
  go_wp2_with fail
  refine (range_any base g (n + 15) 1 2 _ (HS3.out.less (by omega)) (by omega) (by omega)).mono ?_
  rintro e w4 ⟨r4, rfl, _, hE, hS⟩
  have HE4 := hd (HE3.out.trans hE)
  have HS4 := hd hS
  have HR4 := hd (HR3.out.ext hE (by have := HG.out; simp; omega))
  clear hE hS
  go_wp2_with fail
  refine (flip_any base g (n + 10) 20 _ ((HS4.out.less (by omega)).alloc _) (by omega)).mono ?_
  rintro e w5 ⟨fb, rfl, hE, hS⟩
  have hgw : g < w4.heap.size := HS4.out.lt
  have hRw : w.heap.size < w4.heap.size := HR4.out.lt
  have HM5 := hd ((Blk.new w4 40 #[.int .i64 r1, .int .i64 r2, .int .i64 256, .int .i64 r3, .int .i64 r4]).ext hE (by simp; omega))
  have HE5 := hd (HE4.out.trans (((Ext.refl [g] w4).alloc _).trans hE))
  have HS5 := hd hS
  have HR5 := hd ((HR4.out.alloc (.cells #[.int .i64 r1, .int .i64 r2, .int .i64 256, .int .i64 r3, .int .i64 r4] 40)).ext hE (by have := HG.out; simp; omega))
  clear hE hS
  cases fb
  · have HR := HR5
    have HEE := HE5
    have HSS := hd (HS5.out.less (show n ≤ n + 10 by omega))
    have qm := HM5.out.cell
    have qml := HM5.out.lt
    have qr := HR5.out.cell
    have qrf := HR5.out.frozen
    have qrl := HR5.out.lt
    go_wp2_with fail
    exact bodyPost_ret (results_cell_row rfl _ _ w.heap.size 40 #[.int .i64 r1, .int .i64 r2, .int .i64 256, .int .i64 r3, .int .i64 r4] (0, 0) _ rfl (Blk.all5 HR.out _ _ _ _ _) Try.underlying40 rfl (by kernel_rfl)) rfl ⟨⟨r1, r2, 256, r3, r4⟩, rfl, HEE.out.setAt5 (.inr (Nat.le_refl _)) _ _ _ _ _, HSS.out.setAt5 (by have := HG.out; omega) HBW.out _ _ _ _ _⟩
  · go_wp2_with fail
    refine (next_any base g (n + 8) 5 _ (HS5.out.less (by omega)) (by omega)).mono ?_
    rintro e w6 ⟨r, rfl, hr, hE, hS⟩
    have HE6 := hd (HE5.out.trans hE)
    have HS6 := hd hS
    have HM6 := hd (HM5.out.ext hE (by simp; omega))
    have HR6 := hd (HR5.out.ext hE (by have := HG.out; simp; omega))
    have hr5 : r = 0 ∨ r = 1 ∨ r = 2 ∨ r = 3 ∨ r = 4 := by have := hr.2 (by omega); have := hr.1; omega
    clear hE hS hr
    rcases hr5 with rfl | rfl | rfl | rfl | rfl
    · go_wp2_with fail
      refine (pick_any base g (n + 4) w6.heap.size 4 3 [0, 524289, 1, -1] _ ((HS6.out.less (by omega)).alloc _) (Blk.new _ _ _) (by have := HS6.out.lt; omega) (by decide)).mono ?_
      rintro e w7 ⟨rp, rfl, _, hE, hS⟩
      have hEE := ((Ext.refl [g] w6).alloc (.cells (Nums [0, 524289, 1, -1]) 3)).trans hE
      have HM7 := hd (HM6.out.ext hEE (by simp; omega))
      have HR7 := hd (HR6.out.ext hEE (by have := HG.out; simp; omega))
      have HEE := hd (Ext.setAt (b := w4.heap.size) (i := 0) (u := .int .i64 rp) (.inr (by omega)) (HE6.out.trans hEE))
      have HSS := hd (Stm.setAt (b := w4.heap.size) (i := 0) (u := .int .i64 rp) (by omega) (by have := HBW.out; omega) (hS.less (show n ≤ n + 4 by omega)))
      have HR := hd (HR7.out.far (p := ⟨w4.heap.size, 0, none⟩) (by simp; omega) (.int .i64 rp))
      clear hE hS hEE
      have qm := HM7.out.cell
      have qmf := HM7.out.frozen
      have qml := HM7.out.lt
      have qr := HR7.out.cell
      have qrf := HR7.out.frozen
      have qrl := HR7.out.lt
      go_wp2_with fail
      exact bodyPost_ret (results_cell_row rfl _ _ w.heap.size 40 #[.int .i64 rp, .int .i64 r2, .int .i64 256, .int .i64 r3, .int .i64 r4] (0, 0) _ rfl (Blk.all5 HR.out _ _ _ _ _) Try.underlying40 rfl (by kernel_rfl)) rfl ⟨⟨rp, r2, 256, r3, r4⟩, rfl, HEE.out.setAt5 (.inr (Nat.le_refl _)) _ _ _ _ _, HSS.out.setAt5 (by have := HG.out; omega) HBW.out _ _ _ _ _⟩
    · go_wp2_with fail
      refine (pick_any base g (n + 4) w6.heap.size 3 3 [1, 9, 8] _ ((HS6.out.less (by omega)).alloc _) (Blk.new _ _ _) (by have := HS6.out.lt; omega) (by decide)).mono ?_
      rintro e w7 ⟨rp, rfl, _, hE, hS⟩
      have hEE := ((Ext.refl [g] w6).alloc (.cells (Nums [1, 9, 8]) 3)).trans hE
      have HM7 := hd (HM6.out.ext hEE (by simp; omega))
      have HR7 := hd (HR6.out.ext hEE (by have := HG.out; simp; omega))
      have HEE := hd (Ext.setAt (b := w4.heap.size) (i := 1) (u := .int .i64 rp) (.inr (by omega)) (HE6.out.trans hEE))
      have HSS := hd (Stm.setAt (b := w4.heap.size) (i := 1) (u := .int .i64 rp) (by omega) (by have := HBW.out; omega) (hS.less (show n ≤ n + 4 by omega)))
      have HR := hd (HR7.out.far (p := ⟨w4.heap.size, 1, none⟩) (by simp; omega) (.int .i64 rp))
      clear hE hS hEE
      have qm := HM7.out.cell
      have qmf := HM7.out.frozen
      have qml := HM7.out.lt
      have qr := HR7.out.cell
      have qrf := HR7.out.frozen
      have qrl := HR7.out.lt
      go_wp2_with fail
      exact bodyPost_ret (results_cell_row rfl _ _ w.heap.size 40 #[.int .i64 r1, .int .i64 rp, .int .i64 256, .int .i64 r3, .int .i64 r4] (0, 0) _ rfl (Blk.all5 HR.out _ _ _ _ _) Try.underlying40 rfl (by kernel_rfl)) rfl ⟨⟨r1, rp, 256, r3, r4⟩, rfl, HEE.out.setAt5 (.inr (Nat.le_refl _)) _ _ _ _ _, HSS.out.setAt5 (by have := HG.out; omega) HBW.out _ _ _ _ _⟩
    · go_wp2_with fail
      refine (pick_any base g (n + 4) w6.heap.size 3 3 [255, 4097, 4096] _ ((HS6.out.less (by omega)).alloc _) (Blk.new _ _ _) (by have := HS6.out.lt; omega) (by decide)).mono ?_
      rintro e w7 ⟨rp, rfl, _, hE, hS⟩
      have hEE := ((Ext.refl [g] w6).alloc (.cells (Nums [255, 4097, 4096]) 3)).trans hE
      have HM7 := hd (HM6.out.ext hEE (by simp; omega))
      have HR7 := hd (HR6.out.ext hEE (by have := HG.out; simp; omega))
      have HEE := hd (Ext.setAt (b := w4.heap.size) (i := 2) (u := .int .i64 rp) (.inr (by omega)) (HE6.out.trans hEE))
      have HSS := hd (Stm.setAt (b := w4.heap.size) (i := 2) (u := .int .i64 rp) (by omega) (by have := HBW.out; omega) (hS.less (show n ≤ n + 4 by omega)))
      have HR := hd (HR7.out.far (p := ⟨w4.heap.size, 2, none⟩) (by simp; omega) (.int .i64 rp))
      clear hE hS hEE
      have qm := HM7.out.cell
      have qmf := HM7.out.frozen
      have qml := HM7.out.lt
      have qr := HR7.out.cell
      have qrf := HR7.out.frozen
      have qrl := HR7.out.lt
      go_wp2_with fail
      exact bodyPost_ret (results_cell_row rfl _ _ w.heap.size 40 #[.int .i64 r1, .int .i64 r2, .int .i64 rp, .int .i64 r3, .int .i64 r4] (0, 0) _ rfl (Blk.all5 HR.out _ _ _ _ _) Try.underlying40 rfl (by kernel_rfl)) rfl ⟨⟨r1, r2, rp, r3, r4⟩, rfl, HEE.out.setAt5 (.inr (Nat.le_refl _)) _ _ _ _ _, HSS.out.setAt5 (by have := HG.out; omega) HBW.out _ _ _ _ _⟩
    · go_wp2_with fail
      refine (pick_any base g (n + 4) w6.heap.size 3 3 [1, 9, 8] _ ((HS6.out.less (by omega)).alloc _) (Blk.new _ _ _) (by have := HS6.out.lt; omega) (by decide)).mono ?_
      rintro e w7 ⟨rp, rfl, _, hE, hS⟩
      have hEE := ((Ext.refl [g] w6).alloc (.cells (Nums [1, 9, 8]) 3)).trans hE
      have HM7 := hd (HM6.out.ext hEE (by simp; omega))
      have HR7 := hd (HR6.out.ext hEE (by have := HG.out; simp; omega))
      have HEE := hd (Ext.setAt (b := w4.heap.size) (i := 3) (u := .int .i64 rp) (.inr (by omega)) (HE6.out.trans hEE))
      have HSS := hd (Stm.setAt (b := w4.heap.size) (i := 3) (u := .int .i64 rp) (by omega) (by have := HBW.out; omega) (hS.less (show n ≤ n + 4 by omega)))
      have HR := hd (HR7.out.far (p := ⟨w4.heap.size, 3, none⟩) (by simp; omega) (.int .i64 rp))
      clear hE hS hEE
      have qm := HM7.out.cell
      have qmf := HM7.out.frozen
      have qml := HM7.out.lt
      have qr := HR7.out.cell
      have qrf := HR7.out.frozen
      have qrl := HR7.out.lt
      go_wp2_with fail
      exact bodyPost_ret (results_cell_row rfl _ _ w.heap.size 40 #[.int .i64 r1, .int .i64 r2, .int .i64 256, .int .i64 rp, .int .i64 r4] (0, 0) _ rfl (Blk.all5 HR.out _ _ _ _ _) Try.underlying40 rfl (by kernel_rfl)) rfl ⟨⟨r1, r2, 256, rp, r4⟩, rfl, HEE.out.setAt5 (.inr (Nat.le_refl _)) _ _ _ _ _, HSS.out.setAt5 (by have := HG.out; omega) HBW.out _ _ _ _ _⟩
    · go_wp2_with fail
      refine (pick_any base g (n + 4) w6.heap.size 3 3 [0, 5, 4] _ ((HS6.out.less (by omega)).alloc _) (Blk.new _ _ _) (by have := HS6.out.lt; omega) (by decide)).mono ?_
      rintro e w7 ⟨rp, rfl, _, hE, hS⟩
      have hEE := ((Ext.refl [g] w6).alloc (.cells (Nums [0, 5, 4]) 3)).trans hE
      have HM7 := hd (HM6.out.ext hEE (by simp; omega))
      have HR7 := hd (HR6.out.ext hEE (by have := HG.out; simp; omega))
      have HEE := hd (Ext.setAt (b := w4.heap.size) (i := 4) (u := .int .i64 rp) (.inr (by omega)) (HE6.out.trans hEE))
      have HSS := hd (Stm.setAt (b := w4.heap.size) (i := 4) (u := .int .i64 rp) (by omega) (by have := HBW.out; omega) (hS.less (show n ≤ n + 4 by omega)))
      have HR := hd (HR7.out.far (p := ⟨w4.heap.size, 4, none⟩) (by simp; omega) (.int .i64 rp))
      clear hE hS hEE
      have qm := HM7.out.cell
      have qmf := HM7.out.frozen
      have qml := HM7.out.lt
      have qr := HR7.out.cell
      have qrf := HR7.out.frozen
      have qrl := HR7.out.lt
      go_wp2_with fail
      exact bodyPost_ret (results_cell_row rfl _ _ w.heap.size 40 #[.int .i64 r1, .int .i64 r2, .int .i64 256, .int .i64 r3, .int .i64 rp] (0, 0) _ rfl (Blk.all5 HR.out _ _ _ _ _) Try.underlying40 rfl (by kernel_rfl)) rfl ⟨⟨r1, r2, 256, r3, rp⟩, rfl, HEE.out.setAt5 (.inr (Nat.le_refl _)) _ _ _ _ _, HSS.out.setAt5 (by have := HG.out; omega) HBW.out _ _ _ _ _⟩
end Go.Proofs.Ytedabpldigcffaa
