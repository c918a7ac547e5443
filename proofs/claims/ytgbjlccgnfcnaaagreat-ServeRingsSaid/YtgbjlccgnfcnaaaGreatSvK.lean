/- Package serve: sealed, head, body; slices.Clone of ints (the walk). -/
import Derived.Test.YtgbjlccgnfcnaaaGreatSvJ
namespace Go.Proofs.YtgbjlccgnfcnaaaGreat
open Go.RowKit
set_option linter.unusedSimpArgs false
set_option linter.unusedVariables false

/-- A row of n bytes of the call's own; what is older than base is kept, and all that is no row of bytes. -/
def RowP (base n : Nat) (w : World) (e : Ending) (w' : World) : Prop := ∃ g cap, e = .returned (.slice (some ⟨g, 0, none⟩) n cap) ∧ ByR w' base (.slice (some ⟨g, 0, none⟩) n cap) n ∧ Kp base [] w w' ∧ g < w'.heap.size ∧ base ≤ g
theorem swithin_any (n lo hi : Int) (w : World) : Calls Tryz.prog 28 #[.int .i64 n, .int .i64 lo, .int .i64 hi] w fun e w' => e = .returned (.bool (inB n lo hi)) ∧ w = w' := by
  by_cases h1 : lo ≤ n
  · go_enter Tryz.func28, Tryz.ntmps28
    go_wp2
    go_ret
    exact ⟨ret_bool (by simp [inB, h1]), rfl⟩
  · have h2 : decide (lo ≤ n) = false := by simpa using h1
    go_enter Tryz.func28, Tryz.ntmps28
    go_wp2
    go_ret
    exact ⟨ret_bool (by simp [inB]; omega), rfl⟩
set_option maxRecDepth 100000 in
theorem sealed_any (base g n cap : Nat) (w : World) (h : ByR w base (.slice (some ⟨g, 0, none⟩) n cap) n) (hn : n ≤ 10000) (hb : base ≤ w.heap.size) :
    Calls Tryz.prog 60 #[.slice (some ⟨g, 0, none⟩) n cap] w (RowP base (n + 4) w) := by
  have H := hd h
  clear h
  go_enter Tryz.func60, Tryz.ntmps60
  go_wp2_with fail
  refine (code_any g n cap _ w (fun _ => rfl) (fun _ => H.o.rd) (by omega)).mono ?_
  rintro e w1 ⟨⟨r, rfl⟩, rfl⟩
  go_wp2_with fail
  refine (low_any r 4 (by omega) (by omega) w).mono ?_
  rintro e w1 ⟨g1, c1, rfl, hr1, hE1, hg1, hg2⟩
  have hzz := hE1.size
  have HY := hd (H.o.ext hE1 (by simp))
  have HU := hd hr1.rd
  have HK := hd (Kp.of_ext (base := base) (G := []) hE1 (by simp))
  clear hr1 hE1
  go_wp2_with (
    refine wpList_by rfl _ _ 48 rfl Tryz.underlying48 base _ n rfl HY.o g1 4 c1 rfl HU.out (by omega) (by omega) (by omega) ?_
    intro g9 c9 w9 h9 k9 l9 b9
    have HB9 := hd h9
    have HK9 := hd (HK.o.trans k9)
    clear h9 k9)
  go_ret
  exact ⟨g9, c9, rfl, HB9.o, HK9.o, l9, b9⟩
set_option maxHeartbeats 1000000 in
set_option maxRecDepth 100000 in
/-- body of n ints that lie from an offset on. -/
theorem body_any (kind : Int) (b o n cap : Nat) (A : Option Addr) (w : World) (hA : 0 < n → A = some ⟨b, o, none⟩) (h : ∀ k, k < n → ∃ x : Int, w.cell? ⟨b, o + k, none⟩ = some (.int .i64 x)) (hn : n ≤ 1000) :
    Calls Tryz.prog 65 #[.int .i64 kind, .slice A n cap] w (RowP w.heap.size (1 + 4 * n) w) := by
  have HA := hd hA
  have H := hd h
  clear hA h
  have HB0 := hd (ByR.blk (base := w.heap.size) (Blk.new w 5 #[.int .u8 (IntKind.u8.wrap kind)]) (n := 1) rfl (fun x hx => by simp at hx; exact ⟨_, hx, u8_wrap _⟩) (Nat.le_refl _) (by omega))
  have HK0 := hd (Kp.alloc w.heap.size [] w (.cells #[.int .u8 (IntKind.u8.wrap kind)] 5))
  go_enter Tryz.func65, Tryz.ntmps65
  go_wp2_with fail
  go_loopw [5, 13] (fun v i wr => ∃ (k g c : Nat), i = .int .i64 k ∧ v = .slice (some ⟨g, 0, none⟩) (1 + 4 * k) c ∧ k ≤ n ∧ Hd (ByR wr w.heap.size (.slice (some ⟨g, 0, none⟩) (1 + 4 * k) c) (1 + 4 * k)) ∧ Hd (Kp w.heap.size [] w wr) ∧ g < wr.heap.size ∧ w.heap.size ≤ g) (fun _ i _ => (n - intOf i).toNat)
  case atStart => exact ⟨0, w.heap.size, 1, rfl, rfl, Nat.zero_le _, HB0, HK0, by simp, Nat.le_refl _⟩
  case round =>
    obtain ⟨k, g, c, rfl, rfl, hk, HB, HK, hg1, hg2⟩ := hrel
    rename World => wq
    have hwz := HK.o.size
    by_cases hlt : k < n
    · obtain rfl := HA.o (by omega)
      obtain ⟨x, hx⟩ := H.o k hlt
      have hbl := World.block_lt_of_cell? w _ hx
      have q := (HK.o.below (Nat.le_refl _)).held hx (by simp)
      simp only at hbl
      clear hx
      go_wp2_with fail
      refine (low_any x 4 (by omega) (by omega) wq).mono ?_
      rintro e w1 ⟨g1, c1, rfl, hr1, hE1, hg3, hg4⟩
      have hzz := hE1.size
      have HY := hd (HB.o.ext hE1 (by simp))
      have HU := hd hr1.rd
      have HK1 := hd (HK.o.trans (Kp.of_ext (base := w.heap.size) (G := []) hE1 (by simp)))
      clear hr1 hE1
      go_wp2_with (
        refine wpList_by rfl _ _ 48 rfl Tryz.underlying48 w.heap.size _ (1 + 4 * k) rfl HY.o g1 4 c1 rfl HU.out (by omega) (by omega) (by omega) ?_
        intro g9 c9 w9 h9 k9 l9 b9
        have HB9 := hd h9
        have HK9 := hd (HK1.o.trans k9)
        clear h9 k9)
      go_roundw
      case rel => exact ⟨k + 1, g9, c9, by go_num, by first | rfl | (congr 1), by omega, HB9, HK9, l9, b9⟩
      case measure => simp [intOf]; omega
    · have hkn : k = n := by omega
      subst hkn
      go_wp2_with fail
      go_ret
      exact ⟨g, c, rfl, HB.o, HK.o, hg1, hg2⟩
/-- A new list of the same ints. -/
def CopyP (xs : List Int) (w : World) (e : Ending) (w' : World) : Prop :=
  ∃ g c', e = .returned (.slice (some ⟨g, 0, none⟩) xs.length c') ∧ Ext [] w w' ∧ w'.ownsRow w.heap.size 3 1 (.slice (some ⟨g, 0, none⟩) xs.length c') xs.length (xs.map (Value.int .i64)) ∧ g < w'.heap.size ∧ w.heap.size ≤ g
set_option maxHeartbeats 1000000 in
set_option maxRecDepth 100000 in
theorem copy_any (b o cap : Nat) (xs : List Int) (w : World) (h : NumsAt w b o xs) (h0 : 0 < xs.length) (hl : xs.length ≤ 10000000) :
    Calls Tryz.prog 33 #[.slice (some ⟨b, o, none⟩) xs.length cap] w (CopyP xs w) := by
  obtain ⟨i0, hi0, hz0, hz1, hz2⟩ := intInfo
  have HH := hd h
  clear h
  have heq : ∀ W : World, (binOp .eql 22 (.slice (some ⟨b, o, none⟩) xs.length cap) (.slice none 0 0)).run Tryz.prog W = .ok (.bool false) W := fun W => Go.Lib.run_eql_slice_nil (P := Tryz.prog) (w := W) (h := Tryz.underlying22) ..
  go_enter Tryz.func33, Tryz.ntmps33
  go_wp2_with (
    refine wpList_append_lies _ rfl _ _ 22 rfl w.heap.size 3 i0 _ 1 8 Tryz.underlying22 hi0 hz0 hz1 hz2 rfl (by decide) _ _ _ rfl (row_empty w 3 1) ⟨b, o, none⟩ xs.length cap (xs.map (Value.int .i64)) rfl (by simp) ?c1 (ints_one _) h0 ?c3 ?c4 ?c5 _ rfl ?_
    case c1 => exact (HH.out.ext ((Ext.refl [] _).alloc _) (by simp)).news
    case c3 => unfold maxLen; omega
    case c4 => omega
    case c5 => simp
    intro g cap w2 ho hg ha hlt
    have HX := hd (And.intro ho (And.intro hg (And.intro ha hlt)))
    clear ho hg ha hlt)
  go_ret
  obtain ⟨ho, hg, ha, hlt⟩ := HX.out
  rw [Nat.zero_add, List.nil_append] at ho
  refine ⟨g, cap, rfl, ((Ext.refl [] w).alloc _).grown hg (fun k hk => .inr ?_), ho, hlt, own_base ho g rfl⟩
  cases hk; exact Nat.le_refl _
def ClP (n : Nat) (lo hi : Int) (w : World) (e : Ending) (w' : World) : Prop := ∃ g c, e = .returned (.slice (some ⟨g, 0, none⟩) n c) ∧ IsL w' g n lo hi ∧ Ext [] w w' ∧ w.heap.size ≤ g
theorem clone_any (b n cap : Nat) (lo hi : Int) (w : World) (h : IsL w b n lo hi) (hn : 1 ≤ n) (hn2 : n ≤ 1000) :
    Calls Tryz.prog 33 #[.slice (some ⟨b, 0, none⟩) n cap] w (ClP n lo hi w) := by
  obtain ⟨xs, h1, rfl, h3, h4⟩ := h
  refine (copy_any b 0 cap xs w h1 (by omega) (by omega)).mono ?_
  rintro e w' ⟨g, c, rfl, hE, hO, hg, hg2⟩
  exact ⟨g, c, rfl, ⟨xs, fun i x hx => by rw [Nat.zero_add]; exact row_cells hO i _ (by rw [List.getElem?_map, hx]; rfl), rfl, h3, hg⟩, hE, hg2⟩
set_option maxHeartbeats 1000000 in
set_option maxRecDepth 100000 in
theorem head_any (D : Dm) (base : Nat) (w : World) (h : D.In w base) : Calls Tryz.prog 34 #[.agg D.cells, .agg #[.int .i64 1, .int .i64 4, .int .i64 1, .int .i64 1]] w fun e w' => ∃ g cap, e = .returned (.slice (some ⟨g, 0, none⟩) 28 cap) ∧ ByR w' w.heap.size (.slice (some ⟨g, 0, none⟩) 28 cap) 28 ∧ Ext [] w w' := by
  have HY := hd (fun W hW => bytes_any D base W hW)
  have HD := hd h
  clear h
  obtain ⟨b0, b1, b2, b3, b4, b5, b6, c0, c1, c2, c3, c4, c5, c6⟩ := D
  simp only [Dm.cells] at HY ⊢
  go_enter Tryz.func34, Tryz.ntmps34
  go_wp2_with fail
  generalize hW0 : World.alloc _ _ = W0
  have HB1 := hd (show Blk W0 (w.heap.size + 1) 40 #[.int .i64 1, .int .i64 4, .int .i64 1, .int .i64 1] by subst hW0; exact Blk.new' _ _ _ _ (by simp))
  have HE0 := hd (show Ext [] w W0 by subst hW0; exact ((Ext.refl _ _).alloc _).alloc _)
  have HZ0 : W0.heap.size = w.heap.size + 2 := by subst hW0; simp
  clear hW0
  refine (HY.o W0 (HD.o.ext HE0.o (by simp))).mono ?_
  rintro e w1 ⟨v, rfl, n, hR, hn, hE⟩
  have HR := hd hR
  have HE1 := hd (HE0.o.trans hE)
  have HB2 := hd (HB1.o.ext hE (by simp))
  obtain ⟨A, cap, hv, hcap, hg⟩ := hR.form
  subst hv
  have hz1 := hE.size
  clear hE hR HY
  go_wp2_with fail
  have HG : Hd (∃ g, (0 < n → A = some ⟨g, 0, none⟩)) := hd (by
    by_cases h0 : 0 < n
    · obtain ⟨g, h1, _⟩ := hg h0
      exact ⟨g, fun _ => h1⟩
    · exact ⟨0, fun h => absurd h h0⟩)
  obtain ⟨g, hA⟩ := HG.o
  clear hg
  have HC4 := hd (Blk.new w1 5 #[.int .u8 119, .int .u8 102, .int .u8 108, .int .u8 1])
  have HE2 := hd ((Ext.refl [] w1).alloc (.cells #[.int .u8 119, .int .u8 102, .int .u8 108, .int .u8 1] 5))
  refine (code_any g n cap A _ hA (fun h0 => by obtain rfl := hA h0; exact HR.o.rd.ext HE2.o (by simp)) (by omega)).mono ?_
  rintro e w2 ⟨⟨r, rfl⟩, rfl⟩
  go_wp2_with fail
  refine (low_any r 4 (by omega) (by omega) _).mono ?_
  rintro e w3 ⟨g1, c1, rfl, hr1, hE3, hg3, hg4⟩
  have HB4 := hd (ByR.blk (base := w.heap.size) (HC4.o.ext hE3 (by simp)) (n := 4) rfl (fun x hx => by simp at hx; rcases hx with rfl | rfl | rfl | rfl <;> exact ⟨_, rfl, by omega, by omega⟩) (by omega) (by omega))
  have HB3 := hd ((HB2.o.ext HE2.o (by simp)).ext hE3 (by simp))
  have HU := hd hr1.rd
  have HE3 := hd ((HE1.o.trans HE2.o).trans hE3)
  have hz3 := hE3.size
  simp at hz3
  clear hr1 hE3 HC4 HE2
  go_wp2_with (
    refine wpList_by rfl _ _ 48 rfl Tryz.underlying48 w.heap.size _ 4 rfl HB4.o g1 4 c1 rfl HU.out (by omega) (by omega) (by omega) ?_
    intro g9 c9 w9 h9 k9 l9 b9
    have HB9 := hd h9
    have HB5 := hd (k9.blk HB3.o (by simp) (by decide))
    have HE9 := hd (k9.ext HE3.o (Nat.le_refl _) (by simp))
    have hz9 := k9.size
    have q5 := HB5.o.cell
    have q5l := HB5.o.lt
    clear h9 k9)
  have HC9 := hd (Blk.new w9 3 #[.int .i64 1, .int .i64 4, .int .i64 1, .int .i64 1])
  have HB0 := hd (HB9.o.ext ((Ext.refl [] w9).alloc (.cells #[.int .i64 1, .int .i64 4, .int .i64 1, .int .i64 1] 3)) (by simp))
  have HEA := hd (HE9.o.alloc (.cells #[.int .i64 1, .int .i64 4, .int .i64 1, .int .i64 1] 3))
  generalize hWA : w9.alloc (.cells #[.int .i64 1, .int .i64 4, .int .i64 1, .int .i64 1] 3) = WA at *
  have hza : WA.heap.size = w9.heap.size + 1 := by rw [← hWA]; simp
  clear hWA
  go_loopw [7, 30] (fun v i wr => ∃ (k g c : Nat), i = .int .i64 k ∧ v = .slice (some ⟨g, 0, none⟩) (8 + 4 * k) c ∧ k ≤ 4 ∧ Hd (ByR wr w.heap.size (.slice (some ⟨g, 0, none⟩) (8 + 4 * k) c) (8 + 4 * k)) ∧ Hd (Kp w.heap.size [] WA wr) ∧ g < wr.heap.size ∧ w.heap.size ≤ g) (fun _ i _ => (4 - intOf i).toNat)
  case atStart => exact ⟨0, g9, c9, rfl, rfl, Nat.zero_le _, HB0, hd (Kp.refl _ _ _), by omega, b9⟩
  case round =>
    obtain ⟨k, g, c, rfl, rfl, hk, HB, HK, hg1, hg2⟩ := hrel
    rename World => wq
    have hwz := HK.o.size
    by_cases hlt : k < 4
    · have hb := HK.o.blk HC9.o (by simp) (by decide)
      obtain ⟨x, hx⟩ : ∃ x : Int, (#[.int .i64 1, .int .i64 4, .int .i64 1, .int .i64 1] : Array Value)[k]? = some (.int .i64 x) := by
        match k, hlt with
        | 0, _ => exact ⟨_, rfl⟩
        | 1, _ => exact ⟨_, rfl⟩
        | 2, _ => exact ⟨_, rfl⟩
        | 3, _ => exact ⟨_, rfl⟩
      have q := (hb.cell k).trans hx
      have ql := hb.lt
      clear hb hx
      go_wp2_with fail
      refine (low_any x 4 (by omega) (by omega) wq).mono ?_
      rintro e w1 ⟨g1, c1, rfl, hr1, hE1, hg3, hg4⟩
      have hzz := hE1.size
      have HY := hd (HB.o.ext hE1 (by simp))
      have HU := hd hr1.rd
      have HK1 := hd (HK.o.trans (Kp.of_ext (base := w.heap.size) (G := []) hE1 (by simp)))
      clear hr1 hE1
      go_wp2_with (
        refine wpList_by rfl _ _ 48 rfl Tryz.underlying48 w.heap.size _ (8 + 4 * k) rfl HY.o g1 4 c1 rfl HU.out (by omega) (by omega) (by omega) ?_
        intro g9 c9 w9 h9 k9 l9 b9
        have HB9 := hd h9
        have HK9 := hd (HK1.o.trans k9)
        clear h9 k9)
      go_roundw
      case rel => exact ⟨k + 1, _, _, by go_num, by first | rfl | (congr 1), by omega, HB9, HK9, by assumption, by assumption⟩
      case measure => simp [intOf]; omega
    · have hkn : k = 4 := by omega
      subst hkn
      go_wp2_with fail
      refine (sealed_any w.heap.size g 24 c wq HB.o (by omega) (by omega)).mono ?_
      rintro e w5 ⟨g5, c5, rfl, hR5, hK5, hg5, hg6⟩
      have HR5 := hd hR5
      have HK5 := hd ((HK.o.trans hK5).ext HEA.o (Nat.le_refl _) (by simp))
      clear hR5 hK5
      go_wp2_with fail
      go_ret
      exact ⟨g5, c5, rfl, HR5.o, HK5.o⟩
end Go.Proofs.YtgbjlccgnfcnaaaGreat
