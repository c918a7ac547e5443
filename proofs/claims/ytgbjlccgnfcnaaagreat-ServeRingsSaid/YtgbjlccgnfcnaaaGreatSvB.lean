/- Package models: the demo model is made (the walk; its end is printed by gen_svb.py). -/
import Derived.Test.YtgbjlccgnfcnaaaGreatSvA
import Derived.Deep.DeepCutAuto
namespace Go.Proofs.YtgbjlccgnfcnaaaGreat
open Go.RowKit
set_option linter.unusedSimpArgs false
set_option linter.unusedVariables false

def zMd : Array Value := #[.int .i64 0, .int .i64 0, .int .i64 0, .int .i64 0, .slice none 0 0, .slice none 0 0, .slice none 0 0, .slice none 0 0, .slice none 0 0, .slice none 0 0, .slice none 0 0]
/-- The state of Make: its boxed values, the model M so far, and the lists that are made. -/
structure MkF (s : Nat) (w W : World) (M : Array Value) (Ls : List (Nat × Nat × Int × Int)) : Prop where
  hs : w.heap.size = s
  b0 : Blk W s 3 #[.int .i64 1]
  b1 : Blk W (s + 1) 37 zMd
  b2 : ∃ d, Blk W (s + 1 + 1) 3 #[.int .i64 d]
  b4 : Blk W (s + 1 + 1 + 1 + 1) 37 M
  ext : Ext [] w W
  ls : ∀ l ∈ Ls, IsL W l.1 l.2.1 l.2.2.1 l.2.2.2 ∧ s + 1 + 1 < l.1 ∧ l.1 ≠ s + 1 + 1 + 1 + 1
theorem MkF.step {s : Nat} {w W : World} {M : Array Value} {Ls : List (Nat × Nat × Int × Int)} (h : MkF s w W M Ls) {w1 : World} {e n f : Nat} {x : List Int} {d : Int} (v : Value) {M' : Array Value}
    (hb : Blk w1 e 3 (Nums x)) (hn : x.length = n) (ha : AllIn (-8) 8 x) (hd1 : Blk w1 (s + 1 + 1) 3 #[.int .i64 d]) (hE : Ext [s + 1 + 1] W w1) (he : W.heap.size ≤ e) (hM : M.setIfInBounds f v = M') :
    MkF s w (w1.setCell ⟨s + 1 + 1 + 1 + 1, f, none⟩ v) M' ((e, n, -128, 127) :: Ls) := by
  have h4 := h.b4.lt
  have hz := h.hs
  have hX : Ext [s + 1 + 1, s + 1 + 1 + 1 + 1] W (w1.setCell ⟨s + 1 + 1 + 1 + 1, f, none⟩ v) := Ext.setCell (hE.mono (fun x hx => .inl (by simp at hx; simp [hx]))) (.inl (by simp)) v
  refine ⟨h.hs, h.b0.ext hX (by simp <;> omega), h.b1.ext hX (by simp <;> omega), ⟨d, hd1.far (by simp <;> omega) v⟩, (h.b4.ext hE (by simp <;> omega)).set_' f v M' hM, h.ext.step hX (fun x hx => .inr (by simp at hx; omega)), ?_⟩
  intro l hl
  rcases List.mem_cons.1 hl with rfl | hl
  · exact ⟨IsL.blk (hb.far (by simp <;> omega) v) hn (fun y hy => by have := ha y hy; simp only; omega), by simp <;> omega, by simp <;> omega⟩
  · obtain ⟨h1, h2, h3⟩ := h.ls l hl
    exact ⟨h1.ext hX (by simp <;> omega), h2, h3⟩
theorem MkF.lay {s : Nat} {w W : World} {M : Array Value} {Ls : List (Nat × Nat × Int × Int)} (h : MkF s w W M Ls) {f : Nat} (xs : List Int) (lo hi : Int) (v : Value) {M' : Array Value} (ha : AllIn lo hi xs) (hM : M.setIfInBounds f v = M') :
    MkF s w ((W.setCell ⟨s + 1 + 1 + 1 + 1, f, none⟩ v).alloc (.cells (Nums xs) 3)) M' ((W.heap.size, xs.length, lo, hi) :: Ls) := by
  have h4 := h.b4.lt
  have hz := h.hs
  have hX : Ext [s + 1 + 1 + 1 + 1] W ((W.setCell ⟨s + 1 + 1 + 1 + 1, f, none⟩ v).alloc (.cells (Nums xs) 3)) := (Ext.setCell (Ext.refl _ _) (.inl (by simp)) v).alloc _
  obtain ⟨d, hd2⟩ := h.b2
  refine ⟨h.hs, h.b0.ext hX (by simp <;> omega), h.b1.ext hX (by simp <;> omega), ⟨d, hd2.ext hX (by simp <;> omega)⟩, (h.b4.set_' f v M' hM).alloc _, h.ext.step hX (fun x hx => .inr (by simp at hx; omega)), ?_⟩
  intro l hl
  rcases List.mem_cons.1 hl with rfl | hl
  · exact ⟨IsL.blk (Blk.new' _ _ _ _ (by simp [World.setCell])) rfl ha, by simp <;> omega, by simp <;> omega⟩
  · obtain ⟨h1, h2, h3⟩ := h.ls l hl
    exact ⟨h1.ext hX (by simp <;> omega), h2, h3⟩
/-- All eleven cells turned. -/
theorem Blk.all11 {w : World} {b : Nat} {t : TypeId} {x0 x1 x2 x3 x4 x5 x6 x7 x8 x9 x10 : Value} (h : Blk w b t #[x0, x1, x2, x3, x4, x5, x6, x7, x8, x9, x10]) (y0 y1 y2 y3 y4 y5 y6 y7 y8 y9 y10 : Value) :
    Blk (((((((((((w.setCell ⟨b, 0, none⟩ y0).setCell ⟨b, 1, none⟩ y1).setCell ⟨b, 2, none⟩ y2).setCell ⟨b, 3, none⟩ y3).setCell ⟨b, 4, none⟩ y4).setCell ⟨b, 5, none⟩ y5).setCell ⟨b, 6, none⟩ y6).setCell ⟨b, 7, none⟩ y7).setCell ⟨b, 8, none⟩ y8).setCell ⟨b, 9, none⟩ y9).setCell ⟨b, 10, none⟩ y10) b t #[y0, y1, y2, y3, y4, y5, y6, y7, y8, y9, y10] := by
  have h0 := h.set_' 0 y0 #[y0, x1, x2, x3, x4, x5, x6, x7, x8, x9, x10] rfl
  have h1 := h0.set_' 1 y1 #[y0, y1, x2, x3, x4, x5, x6, x7, x8, x9, x10] rfl
  have h2 := h1.set_' 2 y2 #[y0, y1, y2, x3, x4, x5, x6, x7, x8, x9, x10] rfl
  have h3 := h2.set_' 3 y3 #[y0, y1, y2, y3, x4, x5, x6, x7, x8, x9, x10] rfl
  have h4 := h3.set_' 4 y4 #[y0, y1, y2, y3, y4, x5, x6, x7, x8, x9, x10] rfl
  have h5 := h4.set_' 5 y5 #[y0, y1, y2, y3, y4, y5, x6, x7, x8, x9, x10] rfl
  have h6 := h5.set_' 6 y6 #[y0, y1, y2, y3, y4, y5, y6, x7, x8, x9, x10] rfl
  have h7 := h6.set_' 7 y7 #[y0, y1, y2, y3, y4, y5, y6, y7, x8, x9, x10] rfl
  have h8 := h7.set_' 8 y8 #[y0, y1, y2, y3, y4, y5, y6, y7, y8, x9, x10] rfl
  have h9 := h8.set_' 9 y9 #[y0, y1, y2, y3, y4, y5, y6, y7, y8, y9, x10] rfl
  have h10 := h9.set_' 10 y10 #[y0, y1, y2, y3, y4, y5, y6, y7, y8, y9, y10] rfl
  exact h10
theorem Ext.all11 {S : List Nat} {a w : World} {b : Nat} (h : Ext S a w) (hb : b ∈ S ∨ a.heap.size ≤ b) (y0 y1 y2 y3 y4 y5 y6 y7 y8 y9 y10 : Value) : Ext S a (((((((((((w.setCell ⟨b, 0, none⟩ y0).setCell ⟨b, 1, none⟩ y1).setCell ⟨b, 2, none⟩ y2).setCell ⟨b, 3, none⟩ y3).setCell ⟨b, 4, none⟩ y4).setCell ⟨b, 5, none⟩ y5).setCell ⟨b, 6, none⟩ y6).setCell ⟨b, 7, none⟩ y7).setCell ⟨b, 8, none⟩ y8).setCell ⟨b, 9, none⟩ y9).setCell ⟨b, 10, none⟩ y10) :=
  ((((((((((h.setAt hb).setAt hb).setAt hb).setAt hb).setAt hb).setAt hb).setAt hb).setAt hb).setAt hb).setAt hb).setAt hb
theorem results_md {fn : Func} {p u : Tmp} (h : fn.results = #[.cell p 37, .tmp u]) (tmps : Array Value) (w : World) (g : Nat) (D : Dm) (v : Value)
    (hp : tmps.getD p undef = .pointer (some ⟨g, 0, none⟩)) (hu : tmps.getD u undef = v) (hg : Blk w g 37 D.cells) :
    (results fn tmps).run Tryz.prog w = .ok (.tuple #[.agg D.cells, v]) w := by
  have hl := run_loadVar_row (P := Tryz.prog) w g _ 37 D.cells (0, 0) _ hg Tryz.underlying37 rfl (by kernel_rfl)
  rw [results_cell_tmp h, hp, hu]
  simp only [asAddr, Sem.run_pure, Result.andThen_ok, hl]
theorem results_md1 {fn : Func} {p : Tmp} (h : fn.results = #[.cell p 37]) (tmps : Array Value) (w : World) (g : Nat) (D : Dm)
    (hp : tmps.getD p undef = .pointer (some ⟨g, 0, none⟩)) (hg : Blk w g 37 D.cells) :
    (results fn tmps).run Tryz.prog w = .ok (.agg D.cells) w :=
  results_cell_row h tmps w g _ D.cells (0, 0) _ hp hg Tryz.underlying37 rfl (by kernel_rfl)
set_option maxHeartbeats 4000000 in
set_option maxRecDepth 100000 in
theorem make_any (w : World) : Calls Tryz.prog 35 #[.int .i64 1, .int .i64 1, .int .i64 8, .int .i64 4] w fun e w' => ∃ D : Dm, e = .returned (.tuple #[.agg D.cells, .int .i64 0]) ∧ D.In w' w.heap.size ∧ Ext [] w w' := by
  obtain ⟨s, hs⟩ : ∃ s, s = w.heap.size := ⟨_, rfl⟩
  go_enter Tryz.func35, Tryz.ntmps35
  go_wp2_with fail
  refine (sized_any _).mono ?_
  rintro e w2 ⟨rfl, rfl⟩
  go_wp2_with fail
  generalize hW0 : World.alloc _ _ = W0
  have F0 := hd (show MkF w.heap.size w W0 #[.int .i64 1, .int .i64 8, .int .i64 4, .int .i64 8, .slice (some ⟨w.heap.size + 1 + 1 + 1, 0, none⟩) 4 4, .slice none 0 0, .slice none 0 0, .slice none 0 0, .slice none 0 0, .slice none 0 0, .slice none 0 0] [(w.heap.size + 1 + 1 + 1, 4, 1, 15)] by
    subst hW0
    refine ⟨rfl, ((((Blk.new w _ _).alloc _).alloc _).alloc _).alloc _, (((Blk.new' _ _ _ _ (by simp)).alloc _).alloc _).alloc _, ⟨0, ((Blk.new' _ _ _ _ (by simp)).alloc _).alloc _⟩, Blk.new' _ _ _ _ (by simp), (((((Ext.refl _ _).alloc _).alloc _).alloc _).alloc _).alloc _, ?_⟩
    intro l hl
    rw [List.mem_singleton.1 hl]
    exact ⟨IsL.blk (t := 3) (xs := [4, 6, 8, 3]) ((Blk.new' _ _ _ _ (by simp)).alloc _) rfl (by intro x hx; simp at hx; simp only; omega), by simp, by simp⟩)
  clear hW0
  rw [← hs] at *
  obtain ⟨d0, hd0⟩ := F0.o.b2
  refine (drawn_any s (s + 1 + 1) 32 1 d0 W0 (F0.o.b0.cell 0) hd0 (by omega) (by omega)).mono ?_
  rintro e w1 ⟨e1, x1, d1, rfl, hb, hn, ha, hdd, hE, he⟩
  have mc := (F0.o.b4.ext hE (by simp <;> omega)).cell
  have ml := (F0.o.b4.ext hE (by simp <;> omega)).lt
  have mf := (F0.o.b4.ext hE (by simp <;> omega)).frozen
  have F1 : Hd (MkF s w _ #[.int .i64 1, .int .i64 8, .int .i64 4, .int .i64 8, .slice (some ⟨s + 1 + 1 + 1, 0, none⟩) 4 4, .slice (some ⟨e1, 0, none⟩) 32 32, .slice none 0 0, .slice none 0 0, .slice none 0 0, .slice none 0 0, .slice none 0 0] _) := hd (F0.o.step (f := 5) (.slice (some ⟨e1, 0, none⟩) 32 32) hb hn ha hdd hE he rfl)
  clear hb hn ha hdd hE he hd0 F0
  go_wp2_with fail
  clear mc ml mf
  generalize hV : World.setCell _ _ _ = V1 at *
  clear hV
  obtain ⟨d0, hd0⟩ := F1.o.b2
  refine (drawn_any s (s + 1 + 1) 16 1 d0 V1 (F1.o.b0.cell 0) hd0 (by omega) (by omega)).mono ?_
  rintro e w1 ⟨e2, x1, d1, rfl, hb, hn, ha, hdd, hE, he⟩
  have mc := (F1.o.b4.ext hE (by simp <;> omega)).cell
  have ml := (F1.o.b4.ext hE (by simp <;> omega)).lt
  have mf := (F1.o.b4.ext hE (by simp <;> omega)).frozen
  have F2 : Hd (MkF s w _ #[.int .i64 1, .int .i64 8, .int .i64 4, .int .i64 8, .slice (some ⟨s + 1 + 1 + 1, 0, none⟩) 4 4, .slice (some ⟨e1, 0, none⟩) 32 32, .slice (some ⟨e2, 0, none⟩) 16 16, .slice none 0 0, .slice none 0 0, .slice none 0 0, .slice none 0 0] _) := hd (F1.o.step (f := 6) (.slice (some ⟨e2, 0, none⟩) 16 16) hb hn ha hdd hE he rfl)
  clear hb hn ha hdd hE he hd0 F1
  go_wp2_with fail
  clear mc ml mf
  generalize hV : World.setCell _ _ _ = V2 at *
  clear hV
  obtain ⟨d0, hd0⟩ := F2.o.b2
  refine (drawn_any s (s + 1 + 1) 48 1 d0 V2 (F2.o.b0.cell 0) hd0 (by omega) (by omega)).mono ?_
  rintro e w1 ⟨e3, x1, d1, rfl, hb, hn, ha, hdd, hE, he⟩
  have mc := (F2.o.b4.ext hE (by simp <;> omega)).cell
  have ml := (F2.o.b4.ext hE (by simp <;> omega)).lt
  have mf := (F2.o.b4.ext hE (by simp <;> omega)).frozen
  have F3 : Hd (MkF s w _ #[.int .i64 1, .int .i64 8, .int .i64 4, .int .i64 8, .slice (some ⟨s + 1 + 1 + 1, 0, none⟩) 4 4, .slice (some ⟨e1, 0, none⟩) 32 32, .slice (some ⟨e2, 0, none⟩) 16 16, .slice (some ⟨e3, 0, none⟩) 48 48, .slice none 0 0, .slice none 0 0, .slice none 0 0] _) := hd (F2.o.step (f := 7) (.slice (some ⟨e3, 0, none⟩) 48 48) hb hn ha hdd hE he rfl)
  clear hb hn ha hdd hE he hd0 F2
  go_wp2_with fail
  clear mc ml mf
  generalize hV : World.setCell _ _ _ = V3 at *
  clear hV
  obtain ⟨d0, hd0⟩ := F3.o.b2
  refine (drawn_any s (s + 1 + 1) 32 1 d0 V3 (F3.o.b0.cell 0) hd0 (by omega) (by omega)).mono ?_
  rintro e w1 ⟨e4, x1, d1, rfl, hb, hn, ha, hdd, hE, he⟩
  have mc := (F3.o.b4.ext hE (by simp <;> omega)).cell
  have ml := (F3.o.b4.ext hE (by simp <;> omega)).lt
  have mf := (F3.o.b4.ext hE (by simp <;> omega)).frozen
  have F4 : Hd (MkF s w _ #[.int .i64 1, .int .i64 8, .int .i64 4, .int .i64 8, .slice (some ⟨s + 1 + 1 + 1, 0, none⟩) 4 4, .slice (some ⟨e1, 0, none⟩) 32 32, .slice (some ⟨e2, 0, none⟩) 16 16, .slice (some ⟨e3, 0, none⟩) 48 48, .slice (some ⟨e4, 0, none⟩) 32 32, .slice none 0 0, .slice none 0 0] _) := hd (F3.o.step (f := 8) (.slice (some ⟨e4, 0, none⟩) 32 32) hb hn ha hdd hE he rfl)
  clear hb hn ha hdd hE he hd0 F3
  go_upto_region 14 with fail
  clear mc ml mf
  generalize hV : World.setCell _ _ _ = V4 at *
  clear hV
  have b4c := F4.o.b4.cell
  have b4l := F4.o.b4.lt
  have b4f := F4.o.b4.frozen
  have hne : s + 1 + 1 + 1 + 1 ≠ V4.heap.size := by omega
  go_upto_region 15 with fail
  have F5 : Hd (MkF s w ((V4.setCell ⟨s + 1 + 1 + 1 + 1, 9, none⟩ (.slice (some ⟨V4.heap.size, 0, none⟩) 7 7)).alloc (.cells #[.int .i64 64, .int .i64 32, .int .i64 16, .int .i64 8, .int .i64 4, .int .i64 2, .int .i64 1] 3)) #[.int .i64 1, .int .i64 8, .int .i64 4, .int .i64 8, .slice (some ⟨s + 1 + 1 + 1, 0, none⟩) 4 4, .slice (some ⟨e1, 0, none⟩) 32 32, .slice (some ⟨e2, 0, none⟩) 16 16, .slice (some ⟨e3, 0, none⟩) 48 48, .slice (some ⟨e4, 0, none⟩) 32 32, .slice (some ⟨V4.heap.size, 0, none⟩) 7 7, .slice none 0 0] _) := hd (F4.o.lay (f := 9) [64, 32, 16, 8, 4, 2, 1] 0 1000 (.slice (some ⟨V4.heap.size, 0, none⟩) 7 7) (by intro x hx; simp at hx; omega) rfl)
  clear b4c b4l b4f hne F4
  generalize hV : World.alloc _ _ = V5 at *
  clear hV
  have b4c := F5.o.b4.cell
  have b4l := F5.o.b4.lt
  have b4f := F5.o.b4.frozen
  have hne : s + 1 + 1 + 1 + 1 ≠ V5.heap.size := by omega
  go_upto_region 16 with fail
  have F6 : Hd (MkF s w ((V5.setCell ⟨s + 1 + 1 + 1 + 1, 10, none⟩ (.slice (some ⟨V5.heap.size, 0, none⟩) 6 6)).alloc (.cells #[.int .i64 32, .int .i64 16, .int .i64 8, .int .i64 4, .int .i64 2, .int .i64 1] 3)) #[.int .i64 1, .int .i64 8, .int .i64 4, .int .i64 8, .slice (some ⟨s + 1 + 1 + 1, 0, none⟩) 4 4, .slice (some ⟨e1, 0, none⟩) 32 32, .slice (some ⟨e2, 0, none⟩) 16 16, .slice (some ⟨e3, 0, none⟩) 48 48, .slice (some ⟨e4, 0, none⟩) 32 32, .slice (some ⟨V4.heap.size, 0, none⟩) 7 7, .slice (some ⟨V5.heap.size, 0, none⟩) 6 6] _) := hd (F5.o.lay (f := 10) [32, 16, 8, 4, 2, 1] 1 1000 (.slice (some ⟨V5.heap.size, 0, none⟩) 6 6) (by intro x hx; simp at hx; omega) rfl)
  clear b4c b4l b4f hne F5
  generalize hV : World.alloc _ _ = V6 at *
  clear hV
  have b1l := F6.o.b1.lt
  have b1c := F6.o.b1.cell
  have b1f := F6.o.b1.frozen
  have b4c := F6.o.b4.cell
  dsimp only [zMd] at b1c
  have HR := F6.o.b1
  dsimp only [zMd] at HR
  have HF6 := hd (Blk.all11 HR (.int .i64 1) (.int .i64 8) (.int .i64 4) (.int .i64 8) (.slice (some ⟨s + 1 + 1 + 1, 0, none⟩) 4 4) (.slice (some ⟨e1, 0, none⟩) 32 32) (.slice (some ⟨e2, 0, none⟩) 16 16) (.slice (some ⟨e3, 0, none⟩) 48 48) (.slice (some ⟨e4, 0, none⟩) 32 32) (.slice (some ⟨V4.heap.size, 0, none⟩) 7 7) (.slice (some ⟨V5.heap.size, 0, none⟩) 6 6))
  have HY := hd ((Ext.refl [s + 1] V6).all11 (b := s + 1) (.inl (by simp)) (.int .i64 1) (.int .i64 8) (.int .i64 4) (.int .i64 8) (.slice (some ⟨s + 1 + 1 + 1, 0, none⟩) 4 4) (.slice (some ⟨e1, 0, none⟩) 32 32) (.slice (some ⟨e2, 0, none⟩) 16 16) (.slice (some ⟨e3, 0, none⟩) 48 48) (.slice (some ⟨e4, 0, none⟩) 32 32) (.slice (some ⟨V4.heap.size, 0, none⟩) 7 7) (.slice (some ⟨V5.heap.size, 0, none⟩) 6 6))
  clear HR
  go_wp2_with fail
  refine bodyPost_ret (results_md rfl _ _ (s + 1) ⟨s + 1 + 1 + 1, e1, e2, e3, e4, V4.heap.size, V5.heap.size, 4, 32, 16, 48, 32, 7, 6⟩ (.int .i64 0) rfl rfl HF6.o) rfl ⟨_, rfl, ?_, F6.o.ext.step HY.o (fun x hx => .inr (by have := F6.o.hs; simp at hx; omega))⟩
  have L : ∀ b n lo hi, (b, n, lo, hi) ∈ _ → IsL _ b n lo hi := fun b n lo hi hm => by
    obtain ⟨h1, h2, _⟩ := F6.o.ls (b, n, lo, hi) hm
    exact h1.ext HY.o (by simp only [List.mem_singleton] at *; omega)
  have B : ∀ b n lo hi, (b, n, lo, hi) ∈ _ → w.heap.size ≤ b := fun b n lo hi hm => by
    obtain ⟨_, h2, _⟩ := F6.o.ls (b, n, lo, hi) hm
    have := F6.o.hs
    simp only at h2
    omega
  exact ⟨L _ _ _ _ (by simp), L _ _ _ _ (by simp), L _ _ _ _ (by simp), L _ _ _ _ (by simp), L _ _ _ _ (by simp), L _ _ _ _ (by simp), L _ _ _ _ (by simp),
    B _ 4 1 15 (by simp), B _ 32 (-128) 127 (by simp), B _ 16 (-128) 127 (by simp), B _ 48 (-128) 127 (by simp), B _ 32 (-128) 127 (by simp), B _ 7 0 1000 (by simp), B _ 6 1 1000 (by simp)⟩
end Go.Proofs.YtgbjlccgnfcnaaaGreat
