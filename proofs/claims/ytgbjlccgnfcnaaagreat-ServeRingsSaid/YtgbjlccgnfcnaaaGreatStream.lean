/- The stream of raw numbers: Below, Next, Range, Flip, Pick return numbers in their ranges, and turn the stream's own block alone. Condition: the stream has numbers left (its counter stays far from the greatest int). -/
import Derived.Test.YtgbjlccgnfcnaaaGreatBase
namespace Go.Proofs.YtgbjlccgnfcnaaaGreat
open Go.RowKit

/-- Block g is a stream whose list lies below block 'base'; at least n more numbers can be drawn before its counter comes near 2^60. -/
def Stm (w : World) (base g n : Nat) : Prop := ∃ (A : Option Addr) (len cap : Nat) (k : Int),
  Blk w g 32 #[.slice A len cap, .int .i64 k] ∧ base ≤ g ∧ 0 ≤ k ∧ k + n ≤ 1152921504606846976 ∧ len ≤ 9223372036854775807 ∧
  (0 < len → ∃ b o, A = some ⟨b, o, none⟩ ∧ b < base ∧ ∀ i, i < len → ∃ x, w.cell? ⟨b, o + i, none⟩ = some (.int .i64 x))

theorem Stm.lt {w : World} {base g n : Nat} (h : Stm w base g n) : g < w.heap.size := by
  obtain ⟨A, len, cap, k, h, _⟩ := h; exact h.lt
theorem Stm.base {w : World} {base g n : Nat} (h : Stm w base g n) : base ≤ g := by
  obtain ⟨A, len, cap, k, _, h, _⟩ := h; exact h
theorem Stm.less {w : World} {base g n m : Nat} (h : Stm w base g n) (hm : m ≤ n) : Stm w base g m := by
  obtain ⟨A, len, cap, k, h1, h2, h3, h4, h5⟩ := h
  exact ⟨A, len, cap, k, h1, h2, h3, by omega, h5⟩
theorem Stm.ext {S : List Nat} {w w' : World} {base g n : Nat} (h : Stm w base g n) (he : Ext S w w') (hg : g ∉ S) (hS : ∀ x, x ∈ S → base ≤ x) : Stm w' base g n := by
  obtain ⟨A, len, cap, k, h1, h2, h3, h4, h5, h6⟩ := h
  refine ⟨A, len, cap, k, h1.ext he hg, h2, h3, h4, h5, fun hl => ?_⟩
  obtain ⟨b, o, rfl, hb, hc⟩ := h6 hl
  refine ⟨b, o, rfl, hb, fun i hi => ?_⟩
  obtain ⟨x, hx⟩ := hc i hi
  exact ⟨x, he.held hx (fun hm => by have := hS _ hm; simp at this; omega)⟩
theorem Stm.drew {w : World} {base g n : Nat} (h : Stm w base g n) : Stm w.drew base g n := h
theorem Stm.drewN {w : World} {base g n : Nat} (h : Stm w base g n) (k : Nat) : Stm (w.drewN k) base g n := h
theorem Stm.alloc {w : World} {base g n : Nat} (h : Stm w base g n) (o : Obj) : Stm (w.alloc o) base g n := h.ext (S := []) ((Ext.refl _ _).alloc o) (by simp) (by simp)
theorem Stm.setCell {w : World} {base g n : Nat} (h : Stm w base g n) {p : Addr} (hp : g ≠ p.block) (hb : base ≤ p.block) (u : Value) : Stm (w.setCell p u) base g n :=
  h.ext (S := [p.block]) ((Ext.refl _ _).setCell (.inl (by simp)) u) (by simpa using hp) (by simpa using hb)
theorem Stm.setAt {w : World} {base g n b i : Nat} {u : Value} (hg : g ≠ b) (hb : base ≤ b) (h : Stm w base g n) : Stm (w.setCell ⟨b, i, none⟩ u) base g n := h.setCell hg hb u

theorem below_any (x n : Int) (w : World) (hn : n ≤ 9223372036854775807) :
    Calls Tryz.prog 36 #[.int .i64 x, .int .i64 n] w fun e w' => ∃ r : Int, e = .returned (.int .i64 r) ∧ 0 ≤ r ∧ (1 ≤ n → r < n) ∧ w = w' := by
  by_cases h1 : n < 1
  · go_enter Tryz.func36, Tryz.ntmps36
    go_wp2
    go_ret
    exact ⟨0, rfl, Int.le_refl _, fun h => by omega, rfl⟩
  · have hlo := tmod_lo x n (by omega)
    have hhi := tmod_hi x n (by omega)
    go_enter Tryz.func36, Tryz.ntmps36
    go_wp2
    · go_ret
      exact ⟨_, rfl, by omega, by omega, rfl⟩
    · go_ret
      exact ⟨_, rfl, by omega, by omega, rfl⟩

/-- A number below m, and the stream one step on. -/
def Drawn (base g n : Nat) (w : World) (R : Int → Prop) (e : Ending) (w' : World) : Prop :=
  ∃ r : Int, e = .returned (.int .i64 r) ∧ R r ∧ Ext [g] w w' ∧ Stm w' base g n

theorem next_any (base g n : Nat) (m : Int) (w : World) (h : Stm w base g (n + 1)) (hm : m ≤ 9223372036854775807) :
    Calls Tryz.prog 13 #[.pointer (some ⟨g, 0, none⟩), .int .i64 m] w (Drawn base g n w fun r => 0 ≤ r ∧ (1 ≤ m → r < m)) := by
  obtain ⟨A, len, cap, k, hB, hbase, hk, hkn, hlen, hl⟩ := h
  obtain ⟨hc, hf⟩ := hB.both
  have hend : ∀ j, Ext [g] w ((w.setCell ⟨g, 1, none⟩ (.int .i64 (k + 1))).drewN j) ∧ Stm ((w.setCell ⟨g, 1, none⟩ (.int .i64 (k + 1))).drewN j) base g n := by
    intro j
    have hE : Ext [g] w ((w.setCell ⟨g, 1, none⟩ (.int .i64 (k + 1))).drewN j) := ((Ext.refl _ _).setCell (.inl (by simp)) _).drewN j
    refine ⟨hE, A, len, cap, k + 1, (hB.set_' 1 _ _ rfl).drewN j, hbase, by omega, by omega, hlen, fun h0 => ?_⟩
    obtain ⟨b, o, rfl, hb, hcc⟩ := hl h0
    refine ⟨b, o, rfl, hb, fun i hi => ?_⟩
    obtain ⟨x, hx⟩ := hcc i hi
    exact ⟨x, hE.held hx (by simp; omega)⟩
  have HE := hd hend
  clear hend
  by_cases h0 : len = 0
  · subst h0
    clear hl
    go_enter Tryz.func13, Tryz.ntmps13
    go_wp2_with (go_at_call 36; refine (below_any _ _ _ (by omega)).mono ?_; rintro e w' ⟨r, rfl, hr0, hr1, rfl⟩)
    go_ret
    exact ⟨_, rfl, ⟨hr0, hr1⟩, HE.out 0⟩
  · obtain ⟨b, o, rfl, hb, hcc⟩ := hl (by omega)
    clear hl
    obtain ⟨x, hx⟩ := hcc (k % len).toNat (by
      have := Int.emod_lt_of_pos k (b := (len : Int)) (by omega)
      have := Int.emod_nonneg k (b := (len : Int)) (by omega)
      omega)
    clear hcc
    have hl0 : ((len : Int) == 0) = false := by simp; omega
    have hq0 : 0 ≤ k / len := Int.ediv_nonneg hk (by omega)
    have hm0 : 0 ≤ k % len := Int.emod_nonneg _ (by omega)
    have hm1 : k % len < len := Int.emod_lt_of_pos _ (by omega)
    go_enter Tryz.func13, Tryz.ntmps13
    go_wp2_with fail
    go_quiet (fail)
    go_wp2_with fail
    go_quiet (fail)
    go_wp2_with (go_at_call 36; refine (below_any _ _ _ (by omega)).mono ?_; rintro e w' ⟨r, rfl, hr0, hr1, rfl⟩)
    go_ret
    exact ⟨_, rfl, ⟨hr0, hr1⟩, HE.out _⟩

theorem range_any (base g n : Nat) (lo hi : Int) (w : World) (h : Stm w base g (n + 1)) (h1 : -1152921504606846976 ≤ lo ∧ lo ≤ 1152921504606846976) (h2 : -1152921504606846976 ≤ hi ∧ hi ≤ 1152921504606846976) :
    Calls Tryz.prog 12 #[.pointer (some ⟨g, 0, none⟩), .int .i64 lo, .int .i64 hi] w (Drawn base g n w fun r => lo ≤ r ∧ (r ≤ lo ∨ r ≤ hi)) := by
  obtain ⟨a1, a2⟩ := h1
  obtain ⟨b1, b2⟩ := h2
  by_cases hlt : hi < lo
  · go_enter Tryz.func12, Tryz.ntmps12
    go_wp2_with fail
    go_ret
    exact ⟨_, rfl, ⟨by omega, by omega⟩, Ext.refl _ _, h.less (by omega)⟩
  · go_enter Tryz.func12, Tryz.ntmps12
    go_wp2_with fail
    refine (next_any base g n _ _ h (by omega)).mono ?_
    rintro e w' ⟨r, rfl, ⟨hr0, hr1⟩, hE, hS⟩
    replace hr1 := hr1 (by omega)
    go_wp2_with fail
    go_ret
    exact ⟨_, rfl, ⟨by omega, by omega⟩, hE, hS⟩

/-- A bool, and the stream one step on. -/
def Flipped (base g n : Nat) (w : World) (e : Ending) (w' : World) : Prop :=
  ∃ b : Bool, e = .returned (.bool b) ∧ Ext [g] w w' ∧ Stm w' base g n

theorem flip_any (base g n : Nat) (m : Int) (w : World) (h : Stm w base g (n + 1)) (hm : m ≤ 9223372036854775807) :
    Calls Tryz.prog 22 #[.pointer (some ⟨g, 0, none⟩), .int .i64 m] w (Flipped base g n w) := by
  go_enter Tryz.func22, Tryz.ntmps22
  go_wp2_with (go_at_call 13; refine (next_any base g n _ _ h (by omega)).mono ?_; rintro e w' ⟨r, rfl, ⟨hr0, hr1⟩, hE, hS⟩)
  go_ret
  exact ⟨_, rfl, hE, hS⟩

theorem pick_any (base g n b cap : Nat) (t : TypeId) (xs : List Int) (w : World) (h : Stm w base g (n + 1)) (hb : Blk w b t (Nums xs)) (hbg : b ≠ g) (hx : 0 < xs.length ∧ xs.length ≤ 9223372036854775807) :
    Calls Tryz.prog 20 #[.pointer (some ⟨g, 0, none⟩), .slice (some ⟨b, 0, none⟩) xs.length cap] w (Drawn base g n w fun r => r ∈ xs) := by
  obtain ⟨hx0, hx1⟩ := hx
  have HB := hd hb
  clear hb
  go_enter Tryz.func20, Tryz.ntmps20
  go_wp2_with fail
  refine (next_any base g n _ _ h (by omega)).mono ?_
  rintro e w' ⟨r, rfl, ⟨hr0, hr1⟩, hE, hS⟩
  replace hr1 := hr1 (by omega)
  have hc : w'.cell? ⟨b, 0 + r.toNat, none⟩ = some (.int .i64 (xs[r.toNat]'(by omega))) := by
    rw [(HB.out.ext hE (by simpa using hbg)).cell]
    have hlt : r.toNat < xs.length := by omega
    simp [Nums, hlt]
  have hmem : xs[r.toNat]'(by omega) ∈ xs := List.getElem_mem _
  generalize xs[r.toNat]'(by omega) = y at hc hmem
  have HM := hd hmem
  clear hmem
  rw [Nat.zero_add] at hc
  go_wp2_with fail
  go_ret
  exact ⟨_, rfl, HM.out, hE, hS⟩

theorem word_any (base g n : Nat) (w : World) (h : Stm w base g (n + 3)) :
    Calls Tryz.prog 46 #[.pointer (some ⟨g, 0, none⟩)] w (Drawn base g n w fun r => -2147483648 ≤ r ∧ r ≤ 2147483647) := by
  go_enter Tryz.func46, Tryz.ntmps46
  go_wp2_with fail
  refine (next_any base g (n + 2) _ _ h (by omega)).mono ?_
  rintro e w1 ⟨r, rfl, ⟨hr0, hr1⟩, hE, hS⟩
  replace hr1 := hr1 (by omega)
  go_wp2_with (first
    | (go_at_call 13; refine (next_any base g _ _ _ (by assumption) (by omega)).mono ?_; rintro e w2 ⟨q, rfl, ⟨hq0, hq1⟩, hE2, hS2⟩; replace hq1 := hq1 (by omega))
    | (go_at_call 12; refine (range_any base g _ _ _ _ (by assumption) (by omega) (by omega)).mono ?_; rintro e w2 ⟨q, rfl, ⟨hq0, hq1⟩, hE2, hS2⟩))
  · go_ret
    exact ⟨_, rfl, ⟨by omega, by omega⟩, hE.trans hE2, hS2.less (by omega)⟩
  · go_ret
    exact ⟨_, rfl, ⟨by omega, by omega⟩, hE.trans hE2, hS2.less (by omega)⟩
  · rename_i hE3 hS3 _ _ _ _ _ _
    go_ret
    exact ⟨_, rfl, ⟨by omega, by omega⟩, (hE.trans (by assumption)).trans hE2, hS2.less (by omega)⟩
  · go_ret
    exact ⟨_, rfl, ⟨by omega, by omega⟩, hE.trans hE2, hS2.less (by omega)⟩
end Go.Proofs.YtgbjlccgnfcnaaaGreat
