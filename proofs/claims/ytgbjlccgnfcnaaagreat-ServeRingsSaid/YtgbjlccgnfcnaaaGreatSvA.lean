/- Package models: the demo model is made (the walk). -/
import Derived.Test.YtgbjlccgnfcnaaaGreatGenA
namespace Go.Proofs.YtgbjlccgnfcnaaaGreat
open Go.RowKit
set_option linter.unusedSimpArgs false
set_option linter.unusedVariables false

/-- n is from lo to hi. -/
def inB (n lo hi : Int) : Bool := decide (lo ≤ n) && decide (n ≤ hi)
theorem inB_iff {n lo hi : Int} : inB n lo hi = true ↔ lo ≤ n ∧ n ≤ hi := by simp [inB]
theorem mwithin_any (n lo hi : Int) (w : World) : Calls Tryz.prog 75 #[.int .i64 n, .int .i64 lo, .int .i64 hi] w fun e w' => e = .returned (.bool (inB n lo hi)) ∧ w = w' := by
  by_cases h1 : lo ≤ n
  · go_enter Tryz.func75, Tryz.ntmps75
    go_wp2
    go_ret
    exact ⟨ret_bool (by simp [inB, h1]), rfl⟩
  · have h2 : decide (lo ≤ n) = false := by simpa using h1
    go_enter Tryz.func75, Tryz.ntmps75
    go_wp2
    go_ret
    exact ⟨ret_bool (by simp [inB]; omega), rfl⟩
theorem bits_u64 (op : BinOp) (x y : Int) : 0 ≤ bits op .u64 x y ∧ bits op .u64 x y < 18446744073709551616 := by
  unfold bits
  rw [IntKind.wrap_u64]
  omega
theorem draw_any (s k : Int) (w : World) : Calls Tryz.prog 63 #[.int .i64 s, .int .i64 k] w fun e w' => (∃ r : Int, e = .returned (.int .i64 r) ∧ 0 ≤ r ∧ r < 4294967296) ∧ w = w' := by
  go_enter Tryz.func63, Tryz.ntmps63
  go_wp2
  go_ret
  have key : ∀ x : Int, 0 ≤ x ∧ x < 18446744073709551616 → 0 ≤ wrap64 (x / 4294967296) ∧ wrap64 (x / 4294967296) < 4294967296 := by
    intro x hx
    unfold wrap64
    omega
  exact ⟨⟨_, rfl, key _ (bits_u64 _ _ _)⟩, rfl⟩
theorem make_nums (n : Nat) (hn : n ≤ 1000000) : ∀ W : World, (Instr.makeSlice 22 (.int .i64 n) (.int .i64 n)).run Tryz.prog W = .ok (.slice (some ⟨W.heap.size, 0, none⟩) n n) (W.alloc (.cells (Nums (List.replicate n 0)) 3)) := by
  intro W
  rw [run_make_row' 22 3 (.int .i64 0) 8 Tryz.underlying22 (by kernel_rfl) rfl .i64 .i64 n (by omega) (by omega) W]
  congr 3
  apply Array.ext
  · simp [Nums, madeCells]
  · intro i h1 h2
    simp [Nums, madeCells, Nat.mod_one]
theorem nums_set (xs : List Int) (k : Nat) (v : Int) : (Nums xs).setIfInBounds k (.int .i64 v) = Nums (xs.set k v) := by
  simp [Nums]
theorem nums_at' {xs : List Int} {i : Nat} (h : i < xs.length) : (Nums xs)[i]? = some (.int .i64 xs[i]) := by simp [Nums, h]
/-- All ints of a list are from lo to hi. -/
def AllIn (lo hi : Int) (xs : List Int) : Prop := ∀ x ∈ xs, lo ≤ x ∧ x ≤ hi
theorem AllIn.set {lo hi v : Int} {xs : List Int} (h : AllIn lo hi xs) (k : Nat) (h1 : lo ≤ v) (h2 : v ≤ hi) : AllIn lo hi (xs.set k v) := fun x hx => by
  rcases List.mem_or_eq_of_mem_set hx with h3 | rfl
  · exact h x h3
  · exact ⟨h1, h2⟩
theorem AllIn.zeros (n : Nat) {lo hi : Int} (h1 : lo ≤ 0) (h2 : 0 ≤ hi) : AllIn lo hi (List.replicate n 0) := fun x hx => by
  rw [(List.mem_replicate.1 hx).2]; exact ⟨h1, h2⟩
set_option maxRecDepth 100000 in
theorem drawn_any (gs gd n : Nat) (s d : Int) (w : World) (hs : w.cell? ⟨gs, 0, none⟩ = some (.int .i64 s)) (hd0 : Blk w gd 3 #[.int .i64 d]) (hne : gs ≠ gd) (hn : n ≤ 1000) :
    Calls Tryz.prog 62 #[.int .i64 n, .pointer (some ⟨gs, 0, none⟩), .pointer (some ⟨gd, 0, none⟩)] w fun e w' =>
      ∃ (b : Nat) (xs : List Int) (d' : Int), e = .returned (.slice (some ⟨b, 0, none⟩) n n) ∧ Blk w' b 3 (Nums xs) ∧ xs.length = n ∧ AllIn (-8) 8 xs ∧ Blk w' gd 3 #[.int .i64 d'] ∧ Ext [gd] w w' ∧ w.heap.size ≤ b := by
  have hmk := make_nums n (by omega)
  have HS := hd hs
  have HD := hd hd0
  have hgs := World.block_lt_of_cell? w _ hs
  simp only at hgs
  have HBN := hd (Blk.new w 3 (Nums (List.replicate n 0)))
  have HE0 := hd ((Ext.refl [gd] w).alloc (.cells (Nums (List.replicate n 0)) 3))
  have HD1 := hd (HD.o.alloc (.cells (Nums (List.replicate n 0)) 3))
  have hgd := hd0.lt
  clear hs hd0
  go_enter Tryz.func62, Tryz.ntmps62
  go_wp2_with fail
  go_loopw [11] (fun i wr => ∃ (k : Nat) (xs : List Int) (d' : Int), i = .int .i64 k ∧ k ≤ n ∧ Hd (Blk wr w.heap.size 3 (Nums xs)) ∧ Hd (xs.length = n ∧ AllIn (-8) 8 xs) ∧ Hd (Blk wr gd 3 #[.int .i64 d']) ∧ Hd (Ext [gd] w wr)) (fun i _ => (n - intOf i).toNat)
  case atStart => exact ⟨0, _, d, rfl, Nat.zero_le _, HBN, hd ⟨by simp, AllIn.zeros n (by omega) (by omega)⟩, HD1, HE0⟩
  case round =>
    obtain ⟨k, xs, d', rfl, hk, HB, HX, HD2, HE⟩ := hrel
    rename World => w1
    by_cases hlt : k < n
    · have hkx : k < xs.length := by have := HX.o.1; omega
      have q0 := HE.o.held HS.o (by simp [hne])
      have q1 := HD2.o.cell
      have q2 := HD2.o.lt
      have q3 := HD2.o.frozen
      have r1 := HB.o.cell
      have r2 := HB.o.lt
      have r3 := HB.o.frozen
      have rk := nums_at' hkx
      generalize xs[k] = y0 at rk
      have hsz := HE.o.size
      go_wp2_with fail
      refine (draw_any _ _ _).mono ?_
      rintro e w2 ⟨⟨r, rfl, hr0, hr1⟩, rfl⟩
      have hw17 : r.tmod 17 = r % 17 := by rw [Int.tmod_eq_emod_of_nonneg hr0]
      have hm0 : 0 ≤ r % 17 := by omega
      have hm1 : r % 17 ≤ 16 := by omega
      go_wp2_with fail
      go_roundw
      case rel =>
        have hgb : gd ≠ w.heap.size := by omega
        refine ⟨k + 1, xs.set k (r % 17 - 8), _, by go_num, by omega, hd ?_, hd ⟨by rw [List.length_set]; exact HX.o.1, HX.o.2.set k (by omega) (by omega)⟩, hd ((HD2.o.far hgb _).set_' 0 _ _ rfl), hd ((HE.o.setCell (.inr (Nat.le_refl _)) _).setCell (.inl (by simp)) _)⟩
        refine Blk.far ?_ (fun h => hgb h.symm) _
        rw [← nums_set]
        exact HB.o.set_ k _
      case measure => simp [intOf]; omega
    · go_wp2_with fail
      go_ret
      exact ⟨_, xs, d', rfl, HB.o, HX.o.1, HX.o.2, HD2.o, HE.o, Nat.le_refl _⟩
theorem sized_any (w : World) : Calls Tryz.prog 61 #[.int .i64 1, .int .i64 8, .int .i64 4] w fun e w' => e = .returned (.int .i64 0) ∧ w = w' := by
  go_enter Tryz.func61, Tryz.ntmps61
  go_wp2_with (go_at_call 75; refine (mwithin_any _ _ _ _).mono ?_; rintro e w' ⟨rfl, rfl⟩; rw [show inB _ _ _ = true from rfl])
  go_ret
  exact ⟨rfl, rfl⟩
/-- Block b begins with n ints from lo to hi. -/
def IsL (w : World) (b n : Nat) (lo hi : Int) : Prop := ∃ xs, NumsAt w b 0 xs ∧ xs.length = n ∧ AllIn lo hi xs ∧ b < w.heap.size
theorem IsL.ext {S : List Nat} {w w' : World} {b n : Nat} {lo hi : Int} (h : IsL w b n lo hi) (hE : Ext S w w') (hb : b ∉ S) : IsL w' b n lo hi := by
  obtain ⟨xs, h1, h2, h3, h4⟩ := h
  exact ⟨xs, h1.ext hE hb, h2, h3, Nat.lt_of_lt_of_le h4 hE.size⟩
theorem IsL.wide {w : World} {b n : Nat} {lo hi lo' hi' : Int} (h : IsL w b n lo hi) (h1 : lo' ≤ lo) (h2 : hi ≤ hi') : IsL w b n lo' hi' := by
  obtain ⟨xs, a1, a2, a3, a4⟩ := h
  exact ⟨xs, a1, a2, fun x hx => ⟨Int.le_trans h1 (a3 x hx).1, Int.le_trans (a3 x hx).2 h2⟩, a4⟩
theorem IsL.blk {w : World} {b n : Nat} {lo hi : Int} {t : TypeId} {xs : List Int} (h : Blk w b t (Nums xs)) (hn : xs.length = n) (ha : AllIn lo hi xs) : IsL w b n lo hi := ⟨xs, .blk h, hn, ha, h.lt⟩
/-- Where the demo model's lists lie: their blocks and capacities. -/
structure Dm where
  b0 : Nat
  b1 : Nat
  b2 : Nat
  b3 : Nat
  b4 : Nat
  b5 : Nat
  b6 : Nat
  c0 : Nat
  c1 : Nat
  c2 : Nat
  c3 : Nat
  c4 : Nat
  c5 : Nat
  c6 : Nat
def Dm.cells (D : Dm) : Array Value := #[.int .i64 1, .int .i64 8, .int .i64 4, .int .i64 8, .slice (some ⟨D.b0, 0, none⟩) 4 D.c0, .slice (some ⟨D.b1, 0, none⟩) 32 D.c1, .slice (some ⟨D.b2, 0, none⟩) 16 D.c2, .slice (some ⟨D.b3, 0, none⟩) 48 D.c3, .slice (some ⟨D.b4, 0, none⟩) 32 D.c4, .slice (some ⟨D.b5, 0, none⟩) 7 D.c5, .slice (some ⟨D.b6, 0, none⟩) 6 D.c6]
/-- The lists of the demo model lie in the world. -/
structure Dm.In (w : World) (base : Nat) (D : Dm) : Prop where
  i0 : IsL w D.b0 4 1 15
  i1 : IsL w D.b1 32 (-128) 127
  i2 : IsL w D.b2 16 (-128) 127
  i3 : IsL w D.b3 48 (-128) 127
  i4 : IsL w D.b4 32 (-128) 127
  i5 : IsL w D.b5 7 0 1000
  i6 : IsL w D.b6 6 1 1000
  lo : base ≤ D.b0 ∧ base ≤ D.b1 ∧ base ≤ D.b2 ∧ base ≤ D.b3 ∧ base ≤ D.b4 ∧ base ≤ D.b5 ∧ base ≤ D.b6
theorem IsL.lt {w : World} {b n : Nat} {lo hi : Int} (h : IsL w b n lo hi) : b < w.heap.size := by obtain ⟨_, _, _, _, h4⟩ := h; exact h4
theorem Dm.In.ext {S : List Nat} {w w' : World} {base : Nat} {D : Dm} (h : D.In w base) (hE : Ext S w w') (hS : ∀ x ∈ S, x < base ∨ w.heap.size ≤ x) : D.In w' base := by
  have key : ∀ {b n lo hi}, base ≤ b → IsL w b n lo hi → IsL w' b n lo hi := fun {b n lo hi} hb h => h.ext hE (fun hm => by have := h.lt; have := hS b hm; omega)
  obtain ⟨l0, l1, l2, l3, l4, l5, l6⟩ := h.lo
  exact ⟨key l0 h.i0, key l1 h.i1, key l2 h.i2, key l3 h.i3, key l4 h.i4, key l5 h.i5, key l6 h.i6, h.lo⟩
theorem Dm.In.less {w : World} {base b' : Nat} {D : Dm} (h : D.In w base) (hb : b' ≤ base) : D.In w b' := by
  obtain ⟨l0, l1, l2, l3, l4, l5, l6⟩ := h.lo
  exact ⟨h.i0, h.i1, h.i2, h.i3, h.i4, h.i5, h.i6, by omega⟩
end Go.Proofs.YtgbjlccgnfcnaaaGreat
