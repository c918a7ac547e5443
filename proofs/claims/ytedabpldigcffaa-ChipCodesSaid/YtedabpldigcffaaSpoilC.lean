/- The stream's SpoiledCode: code with a change. -/
import Derived.Test.YtedabpldigcffaaSpoilB
import Derived.Lib.MinMax
namespace Go.Proofs.Ytedabpldigcffaa
open Go.RowKit
set_option linter.unusedSimpArgs false
set_option linter.unusedVariables false

/-- Some code, at most one instruction longer. -/
def SpoilP (base g n len : Nat) (w : World) (e : Ending) (w' : World) : Prop :=
  ∃ v k, e = .returned v ∧ Cd w' w.heap.size v k ∧ k ≤ len + 1 ∧ Ext [g] w w' ∧ Stm w' base g n

/-- An instruction of a block that is code. -/
theorem CodeB.at {w : World} {b n : Nat} (h : CodeB w b n) (k : Nat) (hk : k < n) : ∃ y : Ins, ∀ f v, y.cells[f]? = some v → w.cell? ⟨b, k * 9 + f, none⟩ = some v := by
  obtain ⟨xs, hx, hB⟩ := h
  refine ⟨xs[k]'(by omega), fun f v hv => ?_⟩
  rw [hB.cell]
  have := codeCells_get xs k _ (List.getElem?_eq_getElem (by omega)) f v hv
  simpa using this

set_option maxHeartbeats 4000000 in
set_option maxRecDepth 100000 in
theorem spoiled_empty (base g n : Nat) (A : Option Addr) (cap : Nat) (w : World) (h : RdC w A []) (hS : Stm w base g (n + 10)) :
    Calls Try.prog 19 #[.pointer (some ⟨g, 0, none⟩), .slice A 0 cap] w (SpoilP base g n 0 w) := by
  have HS := hd hS
  clear hS
  go_enter Try.func19, Try.ntmps19
  go_wp2_with fail
  refine (clone_code A cap [] w h (by simp)).mono ?_
  rintro e w1 ⟨v, rfl, hC, hE⟩
  have HS1 := hd (HS.out.ext hE (by simp) (by simp))
  have HE1 := hd hE
  have hgw : g < w1.heap.size := HS1.out.lt
  have hgg : g < w.heap.size := HS.out.lt
  have HBW : Hd (base ≤ w.heap.size) := hd (Nat.le_trans HS.out.base (Nat.le_of_lt hgg))
  rcases hC with ⟨rfl, _⟩ | ⟨b, cap1, rfl, hn1, hcap1, hC, hb1⟩
  · go_wp2_with fail
    refine (range_any base g n _ _ _ (HS1.out.less (by omega)) (by omega) (by omega)).mono ?_
    rintro e w2 ⟨r, rfl, _, hE2, hS2⟩
    obtain ⟨cap', w3, hr, h1, h2, hC3, hE3⟩ := append_grow_code (w := w2.alloc (.cells (codeCells [⟨r, 0, 0, 0, 0, 0, 0, 0, 0⟩]).toArray 64)) (n := 0) (m := 1) (cap := 0) (c2 := 1) (b2 := w2.heap.size) (d := 0) none [] [⟨r, 0, 0, 0, 0, 0, 0, 0, 0⟩] rfl rfl (.inl ⟨rfl, rfl, rfl⟩)
      (fun j v hj => by rw [Nat.zero_add, (Blk.new _ _ _).cell]; simpa using hj) (by omega) (by omega) (by omega)
    have HX := hd (And.intro h1 (And.intro h2 hC3))
    rw [show (w2.alloc (.cells (codeCells [⟨r, 0, 0, 0, 0, 0, 0, 0, 0⟩]).toArray 64)).heap.size = w2.heap.size + 1 by simp] at HX
    have HE : Hd (Ext [g] w w3) := hd ((((HE1.out.nil).trans hE2).alloc _).trans hE3.nil)
    have HST : Hd (Stm w3 base g n) := hd ((hS2.alloc _).ext hE3 (by simp) (by simp))
    have hsz : w.heap.size ≤ w2.heap.size := Nat.le_trans HE1.out.size hE2.size
    clear h1 h2 hC3 hE3 hE2 hS2
    go_wp2_with (at_builtin; refine Lib.wpList_append_run _ rfl _ _ _ _ rfl _ _ rfl rfl _ _ (hr _) ?_)
    go_ret
    obtain ⟨h1, h2, hC3⟩ := HX.out
    exact ⟨_, 1, rfl, .inr ⟨_, _, rfl, by omega, h2, hC3, by omega⟩, by omega, HE.out, HST.out⟩
  · have hbl := hC.lt
    go_wp2_with fail
    refine (range_any base g n _ _ _ (HS1.out.less (by omega)) (by omega) (by omega)).mono ?_
    rintro e w2 ⟨r, rfl, _, hE2, hS2⟩
    have hsz : w.heap.size ≤ w2.heap.size := Nat.le_trans HE1.out.size hE2.size
    have hC2 := (hC.ext hE2 (by simp; omega)).ext (w' := w2.alloc (.cells (codeCells [⟨r, 0, 0, 0, 0, 0, 0, 0, 0⟩]).toArray 64)) ((Ext.refl [] _).alloc _) (by simp)
    have hrun : ∃ b' cap' w3, (∀ ty, (Builtin.append_ #[41, 41] ty #[.slice (some ⟨b, 0, none⟩) 0 cap1, .slice (some ⟨w2.heap.size, 0, none⟩) 1 1]).run Try.prog (w2.alloc (.cells (codeCells [⟨r, 0, 0, 0, 0, 0, 0, 0, 0⟩]).toArray 64)) = .ok (.slice (some ⟨b', 0, none⟩) 1 cap') w3) ∧ 1 ≤ cap' ∧ cap' ≤ 9223372036854775807 ∧ CodeB w3 b' cap' ∧ w.heap.size ≤ b' ∧ Ext [b] (w2.alloc (.cells (codeCells [⟨r, 0, 0, 0, 0, 0, 0, 0, 0⟩]).toArray 64)) w3 := by
      by_cases hc : 1 ≤ cap1
      · obtain ⟨w3, hr, hC3, hE3⟩ := append_room_code (n := 0) (m := 1) (cap := cap1) (c2 := 1) (b2 := w2.heap.size) (d := 0) hC2 [⟨r, 0, 0, 0, 0, 0, 0, 0, 0⟩] rfl (fun j v hj => by rw [Nat.zero_add, (Blk.new _ _ _).cell]; simpa using hj) (by omega) (by omega)
        exact ⟨b, cap1, w3, hr, hc, hcap1, hC3, hb1, hE3⟩
      · obtain ⟨cap', w3, hr, h1, h2, hC3, hE3⟩ := append_grow_code (w := w2.alloc (.cells (codeCells [⟨r, 0, 0, 0, 0, 0, 0, 0, 0⟩]).toArray 64)) (n := 0) (m := 1) (cap := cap1) (c2 := 1) (b2 := w2.heap.size) (d := 0) (some ⟨b, 0, none⟩) [] [⟨r, 0, 0, 0, 0, 0, 0, 0, 0⟩] rfl rfl (.inr ⟨_, _, rfl, by simp [Go.Proofs.Ytedabpldigcffaa.codeCells]⟩)
          (fun j v hj => by rw [Nat.zero_add, (Blk.new _ _ _).cell]; simpa using hj) (by omega) (by omega) (by omega)
        exact ⟨_, cap', w3, hr, h1, h2, hC3, by simp; omega, hE3.nil⟩
    obtain ⟨b', cap', w3, hr, h1, h2, hC3, hb', hE3⟩ := hrun
    have HX := hd (And.intro h1 (And.intro h2 (And.intro hC3 hb')))
    have HE : Hd (Ext [g] w w3) := hd ((((HE1.out.nil).trans hE2).alloc _).step hE3 (fun i hi => .inr (by rw [List.mem_singleton.1 hi]; exact hb1)))
    have HST : Hd (Stm w3 base g n) := hd ((hS2.alloc _).ext hE3 (by simp; omega) (fun i hi => by rw [List.mem_singleton.1 hi]; exact Nat.le_trans HBW.out hb1))
    clear h1 h2 hC3 hE3 hE2 hS2 hC2 hC hb'
    go_wp2_with (at_builtin; refine Lib.wpList_append_run _ rfl _ _ _ _ rfl _ _ rfl rfl _ _ (hr _) ?_)
    go_ret
    obtain ⟨h1, h2, hC3, hb'⟩ := HX.out
    exact ⟨_, 1, rfl, .inr ⟨_, _, rfl, by omega, h2, hC3, hb'⟩, by omega, HE.out, HST.out⟩

theorem spoil_end {base g n len b cap : Nat} {w w4 : World} (hC : CodeB w4 b cap) (hE : Ext [g] w w4) (hS : Stm w4 base g n) (hb : w.heap.size ≤ b) (hbase : base ≤ w.heap.size) (hg : g < w.heap.size) (k f : Nat) (y : Int) (hk : k < len) (hl : len ≤ cap) (hf : f < 9) (hcap : cap ≤ 9223372036854775807) :
    SpoilP base g n len w (.returned (.slice (some ⟨b, 0, none⟩) len cap)) (w4.setCell ⟨b, k * 9 + f, none⟩ (.int .i64 y)) :=
  ⟨_, len, rfl, .inr ⟨_, _, rfl, hl, hcap, hC.set k f y (by omega) hf, hb⟩, by omega, hE.setCell (.inr hb) _, hS.setAt (by omega) (by omega)⟩

set_option maxHeartbeats 4000000 in
set_option maxRecDepth 100000 in
theorem spoiled_some (base g n : Nat) (A : Option Addr) (cap : Nat) (xs : List Ins) (len : Nat) (w : World) (h : RdC w A xs) (hlen : xs.length = len) (h0 : 0 < len) (hl : len ≤ 800000) (hS : Stm w base g (n + 10)) :
    Calls Try.prog 19 #[.pointer (some ⟨g, 0, none⟩), .slice A len cap] w (SpoilP base g n len w) := by
  have HS := hd hS
  have hcl := clone_code A cap xs w h (by omega)
  rw [hlen] at hcl
  have HCL := hd hcl
  clear hS h hlen hcl
  go_enter Try.func19, Try.ntmps19
  go_wp2_with fail
  refine HCL.out.mono ?_
  rintro e w1 ⟨v, rfl, hC, hE⟩
  rcases hC with ⟨rfl, hx0⟩ | ⟨b, cap1, rfl, hn1, hcap1, hC, hb1⟩
  · omega
  have HS1 := hd (HS.out.ext hE (by simp) (by simp))
  have HE1 := hd hE
  have hgw : g < w1.heap.size := HS1.out.lt
  have hgg : g < w.heap.size := HS.out.lt
  have HBW : Hd (base ≤ w.heap.size) := hd (Nat.le_trans HS.out.base (Nat.le_of_lt hgg))
  have hbl := hC.lt
  have HC1 := hd hC
  clear hE hC
  go_wp2_with fail
  refine (next_any base g (n + 8) _ _ (HS1.out.less (by omega)) (by omega)).mono ?_
  rintro e w2 ⟨r, rfl, ⟨hr0, hr1⟩, hE2, hS2⟩
  obtain ⟨k, rfl⟩ : ∃ k : Nat, r = k := ⟨r.toNat, by omega⟩
  obtain ⟨m, rfl⟩ : ∃ m, len = k + 1 + m := ⟨len - (k + 1), by have := hr1 (by omega); omega⟩
  have HC2 := hd (HC1.out.ext hE2 (by simp; omega))
  have HS2 := hd hS2
  have HE2 := hd ((HE1.out.nil).trans hE2)
  clear hr0 hr1 hE2 hS2
  go_wp2_with fail
  refine (next_any base g (n + 7) _ _ (HS2.out.less (by omega)) (by omega)).mono ?_
  rintro e w3 ⟨s, rfl, ⟨hs0, hs1⟩, hE3, hS3⟩
  have HC3 := hd (HC2.out.ext hE3 (by simp; omega))
  have HS3 := hd hS3
  have HE3 := hd (HE2.out.trans hE3)
  have hs11 : s = 0 ∨ s = 1 ∨ s = 2 ∨ s = 3 ∨ s = 4 ∨ s = 5 ∨ s = 6 ∨ s = 7 ∨ s = 8 ∨ s = 9 ∨ s = 10 := by have := hs1 (by omega); omega
  clear hs0 hs1 hE3 hS3
  rcases hs11 with rfl | rfl | rfl | rfl | rfl | rfl | rfl | rfl | rfl | rfl | rfl
  -- ARMS
  · go_wp2_with fail
    refine (range_any base g (n + 5) 0 20 _ (HS3.out.less (by omega)) (by omega) (by omega)).mono ?_
    rintro e w4 ⟨rp, rfl, _, hE, hS⟩
    have HC4 := hd (HC3.out.ext hE (by simp; omega))
    have HS4 := hd hS
    have HE4 := hd (HE3.out.trans hE)
    clear hE hS
    obtain ⟨y, hy⟩ := HC4.out.at k (by omega)
    have q1 := hy 0 _ rfl
    have q2 := HC4.out.frozen (k * 9)
    have q3 := HC4.out.lt
    simp only [Nat.add_zero] at q1
    clear hy
    go_wp2_with fail
    go_ret
    exact spoil_end HC4.out HE4.out (HS4.out.less (by omega)) hb1 HBW.out hgg k 0 rp (by omega) hn1 (by omega) hcap1
  · obtain ⟨y3, hy3⟩ := HC3.out.at k (by omega)
    have c6 := hy3 6 _ rfl
    generalize y3.p = p at c6
    clear hy3
    by_cases hp : p = 0
    · subst hp
      go_wp2_with fail
      refine (pick_any base g (n + 5) w3.heap.size 8 3 [0, 1, 2, 3, 4, 15, 16, 34] _ ((HS3.out.less (by omega)).alloc _) (Blk.new _ _ _) (by have := HS3.out.lt; omega) (by decide)).mono ?_
      rintro e w4 ⟨rp, rfl, _, hE, hS⟩
      have hEE := ((Ext.refl [g] w3).alloc (.cells (Nums [0, 1, 2, 3, 4, 15, 16, 34]) 3)).trans hE
      have HC4 := hd (HC3.out.ext hEE (by simp; omega))
      have HS4 := hd hS
      have HE4 := hd (HE3.out.trans hEE)
      clear hE hS hEE
      obtain ⟨y, hy⟩ := HC4.out.at k (by omega)
      have q1 := hy 1 _ rfl
      have q2 := HC4.out.frozen (k * 9 + 1)
      have q3 := HC4.out.lt
      clear hy
      go_wp2_with fail
      go_ret
      exact spoil_end HC4.out HE4.out (HS4.out.less (by omega)) hb1 HBW.out hgg k 1 rp (by omega) hn1 (by omega) hcap1
    · have hp2 : (p == 0) = false := by simpa using hp
      go_wp2_with fail
      go_ret
      exact ⟨_, _, rfl, .inr ⟨_, _, rfl, hn1, hcap1, HC3.out, hb1⟩, by omega, HE3.out, HS3.out.less (by omega)⟩
  · go_wp2_with fail
    refine (pick_any base g (n + 5) w3.heap.size 7 3 [-1, 8, 15, 16, 1, 31, 32] _ ((HS3.out.less (by omega)).alloc _) (Blk.new _ _ _) (by have := HS3.out.lt; omega) (by decide)).mono ?_
    rintro e w4 ⟨rp, rfl, _, hE, hS⟩
    have hEE := ((Ext.refl [g] w3).alloc (.cells (Nums [-1, 8, 15, 16, 1, 31, 32]) 3)).trans hE
    have HC4 := hd (HC3.out.ext hEE (by simp; omega))
    have HS4 := hd hS
    have HE4 := hd (HE3.out.trans hEE)
    clear hE hS hEE
    obtain ⟨y, hy⟩ := HC4.out.at k (by omega)
    have q1 := hy 2 _ rfl
    have q2 := HC4.out.frozen (k * 9 + 2)
    have q3 := HC4.out.lt
    clear hy
    go_wp2_with fail
    go_ret
    exact spoil_end HC4.out HE4.out (HS4.out.less (by omega)) hb1 HBW.out hgg k 2 rp (by omega) hn1 (by omega) hcap1
  · go_wp2_with fail
    refine (pick_any base g (n + 5) w3.heap.size 5 3 [-1, 7, 8, 15, 16] _ ((HS3.out.less (by omega)).alloc _) (Blk.new _ _ _) (by have := HS3.out.lt; omega) (by decide)).mono ?_
    rintro e w4 ⟨rp, rfl, _, hE, hS⟩
    have hEE := ((Ext.refl [g] w3).alloc (.cells (Nums [-1, 7, 8, 15, 16]) 3)).trans hE
    have HC4 := hd (HC3.out.ext hEE (by simp; omega))
    have HS4 := hd hS
    have HE4 := hd (HE3.out.trans hEE)
    clear hE hS hEE
    obtain ⟨y, hy⟩ := HC4.out.at k (by omega)
    have q1 := hy 3 _ rfl
    have q2 := HC4.out.frozen (k * 9 + 3)
    have q3 := HC4.out.lt
    clear hy
    go_wp2_with fail
    go_ret
    exact spoil_end HC4.out HE4.out (HS4.out.less (by omega)) hb1 HBW.out hgg k 3 rp (by omega) hn1 (by omega) hcap1
  · go_wp2_with fail
    refine (pick_any base g (n + 5) w3.heap.size 5 3 [-1, 7, 8, 16, 3] _ ((HS3.out.less (by omega)).alloc _) (Blk.new _ _ _) (by have := HS3.out.lt; omega) (by decide)).mono ?_
    rintro e w4 ⟨rp, rfl, _, hE, hS⟩
    have hEE := ((Ext.refl [g] w3).alloc (.cells (Nums [-1, 7, 8, 16, 3]) 3)).trans hE
    have HC4 := hd (HC3.out.ext hEE (by simp; omega))
    have HS4 := hd hS
    have HE4 := hd (HE3.out.trans hEE)
    clear hE hS hEE
    obtain ⟨y, hy⟩ := HC4.out.at k (by omega)
    have q1 := hy 4 _ rfl
    have q2 := HC4.out.frozen (k * 9 + 4)
    have q3 := HC4.out.lt
    clear hy
    go_wp2_with fail
    go_ret
    exact spoil_end HC4.out HE4.out (HS4.out.less (by omega)) hb1 HBW.out hgg k 4 rp (by omega) hn1 (by omega) hcap1
  · go_wp2_with fail
    refine (pick_any base g (n + 5) w3.heap.size 8 3 [-1, 2, 7, 8, 1000, 1001, -1000, -1001] _ ((HS3.out.less (by omega)).alloc _) (Blk.new _ _ _) (by have := HS3.out.lt; omega) (by decide)).mono ?_
    rintro e w4 ⟨rp, rfl, _, hE, hS⟩
    have hEE := ((Ext.refl [g] w3).alloc (.cells (Nums [-1, 2, 7, 8, 1000, 1001, -1000, -1001]) 3)).trans hE
    have HC4 := hd (HC3.out.ext hEE (by simp; omega))
    have HS4 := hd hS
    have HE4 := hd (HE3.out.trans hEE)
    clear hE hS hEE
    obtain ⟨y, hy⟩ := HC4.out.at k (by omega)
    have q1 := hy 5 _ rfl
    have q2 := HC4.out.frozen (k * 9 + 5)
    have q3 := HC4.out.lt
    clear hy
    go_wp2_with fail
    go_ret
    exact spoil_end HC4.out HE4.out (HS4.out.less (by omega)) hb1 HBW.out hgg k 5 rp (by omega) hn1 (by omega) hcap1
  · obtain ⟨y3, hy3⟩ := HC3.out.at k (by omega)
    have c1 := hy3 1 _ rfl
    generalize y3.k = p at c1
    clear hy3
    by_cases hp : p = 0
    · subst hp
      go_wp2_with fail
      refine (pick_any base g (n + 5) w3.heap.size 5 3 [0, 1, 16, 17, -1] _ ((HS3.out.less (by omega)).alloc _) (Blk.new _ _ _) (by have := HS3.out.lt; omega) (by decide)).mono ?_
      rintro e w4 ⟨rp, rfl, _, hE, hS⟩
      have hEE := ((Ext.refl [g] w3).alloc (.cells (Nums [0, 1, 16, 17, -1]) 3)).trans hE
      have HC4 := hd (HC3.out.ext hEE (by simp; omega))
      have HS4 := hd hS
      have HE4 := hd (HE3.out.trans hEE)
      clear hE hS hEE
      obtain ⟨y, hy⟩ := HC4.out.at k (by omega)
      have q1 := hy 6 _ rfl
      have q2 := HC4.out.frozen (k * 9 + 6)
      have q3 := HC4.out.lt
      clear hy
      go_wp2_with fail
      go_ret
      exact spoil_end HC4.out HE4.out (HS4.out.less (by omega)) hb1 HBW.out hgg k 6 rp (by omega) hn1 (by omega) hcap1
    · have hp2 : (p == 0) = false := by simpa using hp
      by_cases hp3 : 4 ≤ p
      · by_cases hp4 : p ≤ 15
        · go_wp2_with fail
          refine (pick_any base g (n + 5) w3.heap.size 5 3 [0, 1, 16, 17, -1] _ ((HS3.out.less (by omega)).alloc _) (Blk.new _ _ _) (by have := HS3.out.lt; omega) (by decide)).mono ?_
          rintro e w4 ⟨rp, rfl, _, hE, hS⟩
          have hEE := ((Ext.refl [g] w3).alloc (.cells (Nums [0, 1, 16, 17, -1]) 3)).trans hE
          have HC4 := hd (HC3.out.ext hEE (by simp; omega))
          have HS4 := hd hS
          have HE4 := hd (HE3.out.trans hEE)
          clear hE hS hEE
          obtain ⟨y, hy⟩ := HC4.out.at k (by omega)
          have q1 := hy 6 _ rfl
          have q2 := HC4.out.frozen (k * 9 + 6)
          have q3 := HC4.out.lt
          clear hy
          go_wp2_with fail
          go_ret
          exact spoil_end HC4.out HE4.out (HS4.out.less (by omega)) hb1 HBW.out hgg k 6 rp (by omega) hn1 (by omega) hcap1
        · have hp5 : decide (p ≤ 15) = false := by simpa using hp4
          go_wp2_with fail
          go_ret
          exact ⟨_, _, rfl, .inr ⟨_, _, rfl, hn1, hcap1, HC3.out, hb1⟩, by omega, HE3.out, HS3.out.less (by omega)⟩
      · have hp5 : decide (4 ≤ p) = false := by simpa using hp3
        go_wp2_with fail
        go_ret
        exact ⟨_, _, rfl, .inr ⟨_, _, rfl, hn1, hcap1, HC3.out, hb1⟩, by omega, HE3.out, HS3.out.less (by omega)⟩
  · go_wp2_with fail
    refine (pick_any base g (n + 5) w3.heap.size 6 3 [0, 31, 32, 2147483647, 2147483648, -2147483649] _ ((HS3.out.less (by omega)).alloc _) (Blk.new _ _ _) (by have := HS3.out.lt; omega) (by decide)).mono ?_
    rintro e w4 ⟨rp, rfl, _, hE, hS⟩
    have hEE := ((Ext.refl [g] w3).alloc (.cells (Nums [0, 31, 32, 2147483647, 2147483648, -2147483649]) 3)).trans hE
    have HC4 := hd (HC3.out.ext hEE (by simp; omega))
    have HS4 := hd hS
    have HE4 := hd (HE3.out.trans hEE)
    clear hE hS hEE
    obtain ⟨y, hy⟩ := HC4.out.at k (by omega)
    have q1 := hy 7 _ rfl
    have q2 := HC4.out.frozen (k * 9 + 7)
    have q3 := HC4.out.lt
    clear hy
    go_wp2_with fail
    go_ret
    exact spoil_end HC4.out HE4.out (HS4.out.less (by omega)) hb1 HBW.out hgg k 7 rp (by omega) hn1 (by omega) hcap1
  · go_wp2_with fail
    refine (pick_any base g (n + 5) w3.heap.size 7 3 [0, 1, 256, 257, 1000000, 1000001, -1] _ ((HS3.out.less (by omega)).alloc _) (Blk.new _ _ _) (by have := HS3.out.lt; omega) (by decide)).mono ?_
    rintro e w4 ⟨rp, rfl, _, hE, hS⟩
    have hEE := ((Ext.refl [g] w3).alloc (.cells (Nums [0, 1, 256, 257, 1000000, 1000001, -1]) 3)).trans hE
    have HC4 := hd (HC3.out.ext hEE (by simp; omega))
    have HS4 := hd hS
    have HE4 := hd (HE3.out.trans hEE)
    clear hE hS hEE
    obtain ⟨y, hy⟩ := HC4.out.at k (by omega)
    have q1 := hy 8 _ rfl
    have q2 := HC4.out.frozen (k * 9 + 8)
    have q3 := HC4.out.lt
    clear hy
    go_wp2_with fail
    go_ret
    exact spoil_end HC4.out HE4.out (HS4.out.less (by omega)) hb1 HBW.out hgg k 8 rp (by omega) hn1 (by omega) hcap1
  · go_wp2_with fail
    refine (delete_code b cap1 k m _ HC3.out hn1 hcap1).mono ?_
    rintro e w4 ⟨rfl, hC4, hE4⟩
    have HC4 := hd hC4
    have HE4 : Hd (Ext [g] w w4) := hd (HE3.out.step hE4 (fun i hi => .inr (by rw [List.mem_singleton.1 hi]; exact hb1)))
    have HS4 : Hd (Stm w4 base g n) := hd ((HS3.out.less (by omega)).ext hE4 (by simp; omega) (fun i hi => by rw [List.mem_singleton.1 hi]; exact Nat.le_trans HBW.out hb1))
    clear hC4 hE4
    go_wp2_with fail
    go_ret
    exact ⟨_, _, rfl, .inr ⟨_, _, rfl, by omega, hcap1, HC4.out, hb1⟩, by omega, HE4.out, HS4.out⟩
  · go_wp2_with fail
    refine (pick_any base g (n + 5) w3.heap.size 3 3 [4, 3, 16] _ ((HS3.out.less (by omega)).alloc _) (Blk.new _ _ _) (by have := HS3.out.lt; omega) (by decide)).mono ?_
    rintro e w4 ⟨rp, rfl, _, hE, hS⟩
    have hEE := ((Ext.refl [g] w3).alloc (.cells (Nums [4, 3, 16]) 3)).trans hE
    have HC4 := hd (HC3.out.ext hEE (by simp; omega))
    have HS4 := hd hS
    have HE4 := hd (HE3.out.trans hEE)
    clear hE hS hEE
    go_wp2_with fail
    have hbw4 : b < w4.heap.size := HC4.out.lt
    have hgw4 : g < w4.heap.size := HS4.out.lt
    have HI : Hd (Calls Try.prog 52 #[.slice (some ⟨b, 0, none⟩) (k + 1 + m) cap1, .int .i64 k, .slice (some ⟨w4.heap.size, 0, none⟩) 1 1] (w4.alloc (.cells (codeCells [⟨rp, 0, 0, 0, 0, 0, 0, 0, 0⟩]).toArray 64)) (InsP b (k + 1 + m + 1) (w4.alloc (.cells (codeCells [⟨rp, 0, 0, 0, 0, 0, 0, 0, 0⟩]).toArray 64)))) := hd (by
      have hCA := HC4.out.ext (w' := w4.alloc (.cells (codeCells [⟨rp, 0, 0, 0, 0, 0, 0, 0, 0⟩]).toArray 64)) ((Ext.refl [] _).alloc _) (by simp)
      by_cases hrm : k + 1 + m + 1 ≤ cap1
      · exact insert_room b cap1 k m w4.heap.size 1 ⟨rp, 0, 0, 0, 0, 0, 0, 0, 0⟩ _ hCA (Blk.new _ _ _) (by omega) hrm hcap1
      · obtain rfl : cap1 = k + 1 + m := by omega
        exact insert_grow b k m w4.heap.size 1 ⟨rp, 0, 0, 0, 0, 0, 0, 0, 0⟩ _ hCA (Blk.new _ _ _) (by omega) (by omega))
    refine HI.out.mono ?_
    rintro e w5 ⟨b', cap', rfl, h1, h2, hC5, hbb, hE5⟩
    have HX := hd (And.intro h1 (And.intro h2 hC5))
    have hsz : w.heap.size ≤ w4.heap.size := HE4.out.size
    have HB5 : Hd (w.heap.size ≤ b') := hd (by rcases hbb with rfl | hbb; exact hb1; simp at hbb; omega)
    have HE5 : Hd (Ext [g] w w5) := hd ((HE4.out.alloc _).step hE5 (fun i hi => .inr (by rw [List.mem_singleton.1 hi]; exact hb1)))
    have HS5 : Hd (Stm w5 base g n) := hd (((HS4.out.less (by omega)).alloc _).ext hE5 (by simp; omega) (fun i hi => by rw [List.mem_singleton.1 hi]; exact Nat.le_trans HBW.out hb1))
    clear h1 h2 hC5 hE5 hbb
    go_wp2_with fail
    go_ret
    obtain ⟨h1, h2, hC5⟩ := HX.out
    exact ⟨_, _, rfl, .inr ⟨_, _, rfl, h1, h2, hC5, HB5.out⟩, Nat.le_refl _, HE5.out, HS5.out⟩
end Go.Proofs.Ytedabpldigcffaa
