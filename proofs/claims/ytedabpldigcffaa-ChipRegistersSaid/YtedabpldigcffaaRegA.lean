/- The stream's lives: the walk. Condition: the stream has numbers left. -/
import Derived.Test.YtedabpldigcffaaStream
import Derived.Test.YtedabpldigcffaaCoder
import Derived.Test.YtedabpldigcffaaChipA
import Derived.Test.YtedabpldigcffaaOne
import Derived.Deep.AppendLies
namespace Go.Proofs.Ytedabpldigcffaa
open Go.RowKit
set_option linter.unusedSimpArgs false
set_option linter.unusedVariables false

/-- A life. -/
structure Lf where
  nd : Int
  fr : Int
  tt : Int
  sz : Int
def Lf.cells (x : Lf) : List Value := [.int .i64 x.nd, .int .i64 x.fr, .int .i64 x.tt, .int .i64 x.sz]
def lifeCells (l : List Lf) : List Value := l.flatMap Lf.cells
theorem lifeCells_length (l : List Lf) : (lifeCells l).length = l.length * 4 := by
  induction l with
  | nil => rfl
  | cons x l ih => simp only [lifeCells, List.flatMap_cons, List.length_append] at ih ⊢; rw [ih]; simp [Lf.cells]; omega
theorem lifeCells_snoc (l : List Lf) (x : Lf) : lifeCells (l ++ [x]) = lifeCells l ++ x.cells := by simp [lifeCells]
theorem lifeCells_get (xs : List Lf) (k : Nat) (x : Lf) (h : xs[k]? = some x) (j : Nat) (v : Value) (hv : x.cells[j]? = some v) : (lifeCells xs)[k * 4 + j]? = some v := by
  induction xs generalizing k with
  | nil => simp at h
  | cons y l ih =>
    have hc : lifeCells (y :: l) = y.cells ++ lifeCells l := rfl
    have hl : y.cells.length = 4 := rfl
    have hj : j < 4 := (List.getElem?_eq_some_iff.1 hv).1
    cases k with
    | zero =>
      simp at h; subst h
      rw [hc, Nat.zero_mul, Nat.zero_add, List.getElem?_append_left (by omega)]
      exact hv
    | succ k =>
      rw [hc, List.getElem?_append_right (by omega), hl, show (k + 1) * 4 + j - 4 = k * 4 + j by omega]
      exact ih k (by simpa using h)

/-- The slice's cells from A on read as the lives xs. -/
def RdL (w : World) (A : Option Addr) (xs : List Lf) : Prop :=
  xs = [] ∨ ∃ b o, A = some ⟨b, o, none⟩ ∧ ∀ k x, xs[k]? = some x → ∀ j v, x.cells[j]? = some v → w.cell? ⟨b, o + k * 4 + j, none⟩ = some v
theorem RdL.ext {S : List Nat} {w w' : World} {A : Option Addr} {xs : List Lf} (h : RdL w A xs) (hE : Ext S w w') (hS : ∀ a, A = some a → a.block ∉ S) : RdL w' A xs := by
  rcases h with h | ⟨b, o, rfl, h⟩
  · exact .inl h
  · exact .inr ⟨b, o, rfl, fun k x hx j v hv => hE.held (h k x hx j v hv) (show b ∉ S from hS ⟨b, o, none⟩ rfl)⟩
theorem RdL.at {w : World} {A : Option Addr} {xs : List Lf} (h : RdL w A xs) {k : Nat} {x : Lf} (hx : xs[k]? = some x) :
    ∃ b o, A = some ⟨b, o, none⟩ ∧ b < w.heap.size ∧ ∀ j v, x.cells[j]? = some v → w.cell? ⟨b, o + k * 4 + j, none⟩ = some v := by
  rcases h with h | ⟨b, o, rfl, h⟩
  · simp [h] at hx
  · exact ⟨b, o, rfl, World.block_lt_of_cell? w ⟨b, _, none⟩ (h k x hx 0 _ rfl), h k x hx⟩

/-- Block b begins with the lives; its cells can be written. -/
def LfB (w : World) (b : Nat) (xs : List Lf) : Prop := ∃ cur, Blk w b 53 cur ∧ ∀ k x, xs[k]? = some x → ∀ (j : Nat) (v : Value), x.cells[j]? = some v → cur[k * 4 + j]? = some v
theorem LfB.ext {S : List Nat} {w w' : World} {b : Nat} {xs : List Lf} (h : LfB w b xs) (hE : Ext S w w') (hS : b ∉ S) : LfB w' b xs := by
  obtain ⟨cur, hB, hc⟩ := h
  exact ⟨cur, hB.ext hE hS, hc⟩
theorem LfB.lt {w : World} {b : Nat} {xs : List Lf} (h : LfB w b xs) : b < w.heap.size := by obtain ⟨cur, hB, _⟩ := h; exact hB.lt
theorem LfB.frozen {w : World} {b : Nat} {xs : List Lf} (h : LfB w b xs) (k : Nat) : w.frozen? ⟨b, k, none⟩ = false := by
  obtain ⟨cur, hB, hc⟩ := h; exact hB.frozen k
theorem LfB.cell {w : World} {b : Nat} {xs : List Lf} (h : LfB w b xs) {k : Nat} {x : Lf} (hx : xs[k]? = some x) (j : Nat) (v : Value) (hv : x.cells[j]? = some v) : w.cell? ⟨b, k * 4 + j, none⟩ = some v := by
  obtain ⟨cur, hB, hc⟩ := h
  rw [hB.cell]; exact hc k x hx j v hv
theorem LfB.rd {w : World} {b : Nat} {xs : List Lf} (h : LfB w b xs) : RdL w (some ⟨b, 0, none⟩) xs :=
  .inr ⟨b, 0, rfl, fun k x hx j v hv => by rw [Nat.zero_add]; exact h.cell hx j v hv⟩
theorem LfB.set {w : World} {b : Nat} {xs : List Lf} (h : LfB w b xs) (i : Nat) (hi : i < xs.length) (y : Lf) :
    LfB ((((w.setCell ⟨b, i * 4, none⟩ (.int .i64 y.nd)).setCell ⟨b, i * 4 + 1, none⟩ (.int .i64 y.fr)).setCell ⟨b, i * 4 + 2, none⟩ (.int .i64 y.tt)).setCell ⟨b, i * 4 + 3, none⟩ (.int .i64 y.sz)) b (xs.set i y) := by
  obtain ⟨cur, hB, hc⟩ := h
  refine ⟨_, (((hB.set_ (i * 4) _).set_ (i * 4 + 1) _).set_ (i * 4 + 2) _).set_ (i * 4 + 3) _, fun k x hx j v hv => ?_⟩
  have hx0 : ∀ j, j < 4 → i * 4 + j < cur.size := fun j hj => by
    have h1 := hc i _ (List.getElem?_eq_getElem hi) j _ (List.getElem?_eq_getElem (show j < (xs[i]).cells.length from hj))
    exact (Array.getElem?_eq_some_iff.1 h1).1
  have hj : j < 4 := (List.getElem?_eq_some_iff.1 hv).1
  rw [List.getElem?_set] at hx
  have s0 : i * 4 < cur.size := by simpa using hx0 0 (by omega)
  have s1 := hx0 1 (by omega)
  have s2 := hx0 2 (by omega)
  have s3 := hx0 3 (by omega)
  by_cases hik : i = k
  · subst hik
    rw [if_pos rfl, if_pos hi] at hx
    cases hx
    match j, hj, hv with
    | 0, _, hv => cases hv; simp [Array.getElem?_setIfInBounds, s0]
    | 1, _, hv => cases hv; simp [Array.getElem?_setIfInBounds, s1]
    | 2, _, hv => cases hv; simp [Array.getElem?_setIfInBounds, s2]
    | 3, _, hv => cases hv; simp [Array.getElem?_setIfInBounds, s3]
  · rw [if_neg hik] at hx
    rw [Array.getElem?_setIfInBounds_ne (by omega), Array.getElem?_setIfInBounds_ne (by omega), Array.getElem?_setIfInBounds_ne (by omega), Array.getElem?_setIfInBounds_ne (by omega)]
    exact hc k x hx j v hv
theorem LfB.own {w : World} {base b n cap : Nat} {xs : List Lf} (h : w.ownsRow base 53 4 (.slice (some ⟨b, 0, none⟩) n cap) n (lifeCells xs)) : LfB w b xs := by
  obtain ⟨hl, hx⟩ := h
  rcases hx with ⟨h0, _⟩ | ⟨g', cap', cur, h0, _, hg, hnc, hm, hc, ht⟩
  · cases h0
  · cases h0
    refine ⟨cur, hg, fun k x hx j v hv => ?_⟩
    have h1 := lifeCells_get xs k x hx j v hv
    have hlt : k * 4 + j < n * 4 := by rw [← hl]; exact (List.getElem?_eq_some_iff.1 h1).1
    rw [← ht, List.getElem?_take, if_pos hlt] at h1
    simpa using h1

theorem Try.info53 : (Try.prog.info? 53).map (fun i => (i.zero, i.size, i.bytes)) = some (some (.agg #[.int .i64 0, .int .i64 0, .int .i64 0, .int .i64 0]), 4, 32) := by kernel_rfl

/-- The numbers of a life are small. -/
def Small (x : Lf) : Prop := -1 ≤ x.fr ∧ x.fr ≤ 7 ∧ -1 ≤ x.tt ∧ x.tt ≤ 11
/-- The stream's lives. -/
def LivesP (base g n : Nat) (w : World) (e : Ending) (w' : World) : Prop :=
  ∃ A cap m ls, e = .returned (.slice A m cap) ∧ ls.length = m ∧ RdL w' A ls ∧ (∀ x ∈ ls, Small x) ∧ m ≤ 14 ∧ (∀ a, A = some a → w.heap.size ≤ a.block) ∧ m ≤ cap ∧ Ext [g] w w' ∧ Stm w' base g n
theorem small_set {ls : List Lf} (h : ∀ x ∈ ls, Small x) (i : Nat) (y : Lf) (hy : Small y) : ∀ x ∈ ls.set i y, Small x := by
  intro x hx
  rcases List.mem_or_eq_of_mem_set hx with h1 | h1
  · exact h x h1
  · rw [h1]; exact hy
/-- The lives so far. -/
def LivSt (base g n : Nat) (w : World) (k : Nat) (v : Value) (wr : World) : Prop :=
  Ext [g] w wr ∧ Stm wr base g n ∧ ∃ ls : List Lf, ls.length = k ∧ (∀ x ∈ ls, Small x) ∧ wr.ownsRow w.heap.size 53 4 v k (lifeCells ls)

theorem live_next {base g n k g2 cap2 : Nat} {w wr w7 w8 : World} {o : Obj} {v : Value} {ls : List Lf} {x : Lf} (hE : Ext [g] w wr) (hE7 : Ext [g] wr w7) (h0 : wr.ownsRow w.heap.size 53 4 v k (lifeCells ls)) (hS : Stm w7 base g n) (hb : base ≤ w.heap.size) (hgw : g < w.heap.size)
    (hl : ls.length = k) (hs : ∀ y ∈ ls, Small y) (hx : Small x) (hg : (w7.alloc o).grownBy w8 v.ownBlock) (ho : w8.ownsRow w.heap.size 53 4 (.slice (some ⟨g2, 0, none⟩) (k + 1) cap2) (k + 1) (lifeCells ls ++ x.cells)) :
    LivSt base g n w (k + 1) (.slice (some ⟨g2, 0, none⟩) (k + 1) cap2) w8 := by
  refine ⟨((hE.trans hE7).alloc _).grown hg (fun q hq => .inr (own_base h0 q hq)), ?_, ls ++ [x], by simp [hl], ?_, by rw [lifeCells_snoc]; exact ho⟩
  · refine (hS.alloc o).ext (S := v.ownBlock.toList) ((Ext.refl _ _).grown hg (fun q hq => .inl (by simp [hq]))) (fun hm => ?_) (fun y hy => ?_)
    · have := own_base h0 g (by simpa using hm); omega
    · have := own_base h0 y (by simpa using hy); omega
  · intro y hy
    rcases List.mem_append.1 hy with h | h
    · exact hs y h
    · rw [List.mem_singleton.1 h]; exact hx

set_option maxHeartbeats 4000000 in
set_option maxRecDepth 100000 in
theorem lives_any (base g n : Nat) (w : World) (h : Stm w base g (n + 400)) :
    Calls Try.prog 24 #[.pointer (some ⟨g, 0, none⟩)] w (LivesP base g n w) := by
  obtain ⟨i0, hi0, hz0, hz1, hz2⟩ := info_parts Try.info53
  have HST := hd h
  have HG := hd h.lt
  have HBW : Hd (base ≤ w.heap.size) := hd (Nat.le_trans h.base (Nat.le_of_lt h.lt))
  have hgw : g < w.heap.size := h.lt
  clear h
  go_enter Try.func24, Try.ntmps24
  go_wp2_with fail
  refine (pick_any base g (n + 390) w.heap.size 4 3 [8, 8, 8, 14] _ ((HST.out.less (by omega)).alloc _) (Blk.new _ _ _) (by omega) (by decide)).mono ?_
  rintro e w1 ⟨rp, rfl, hrp, hE1, hS1⟩
  have hr14 : 8 ≤ rp ∧ rp ≤ 14 := by simp at hrp; omega
  have HE1 := hd (((Ext.refl [g] w).alloc _).trans hE1)
  have HS1 := hd hS1
  clear hE1 hS1 hrp
  go_wp2_with fail
  refine (next_any base g (n + 380) rp _ (HS1.out.less (by omega)) (by omega)).mono ?_
  rintro e w2 ⟨rn, rfl, ⟨hn0, hn1⟩, hE2, hS2⟩
  have hn14 : rn < 14 := by have := hn1 (by omega); omega
  have HL0 : Hd (LivSt base g (n + (14 - 0) * 20 + 50) w 0 (.slice none 0 0) w2) := hd ⟨HE1.out.trans hE2, hS2.less (by omega), [], rfl, by simp, rfl, .inl ⟨rfl, rfl⟩⟩
  clear hE2 hS2 hn1
  go_wp2_with fail
  go_loopw [3, 11] (fun v i wr => ∃ k : Nat, i = .int .i64 k ∧ (k : Int) ≤ rn ∧ Hd (LivSt base g (n + (14 - k) * 20 + 50) w k v wr)) (fun _ i _ => (rn - intOf i).toNat)
  case atStart => exact ⟨0, rfl, by omega, HL0⟩
  case round =>
    obtain ⟨k, rfl, hk, HLk⟩ := hrel
    by_cases hlt : (k : Int) < rn
    · obtain ⟨hE, hS, ls, hlen, hsm, ho⟩ := HLk.out
      have HE := hd hE
      have HS := hd hS
      have HO := hd ho
      have HSM := hd hsm
      have HLN := hd hlen
      have hww : w.heap.size ≤ wr.heap.size := hE.size
      clear hE hS hlen hsm ho
      go_wp2_with fail
      refine (next_any base g (n + (14 - (k + 1)) * 20 + 68) _ _ (HS.out.less (by omega)) (by omega)).mono ?_
      rintro e w3 ⟨r3, rfl, ⟨ha3, hb3⟩, hE3, hS3⟩
      replace hb3 := hb3 (by omega)
      have HE3 := hd hE3
      have HS3 := hd hS3
      clear hE3 hS3
      go_wp2_with fail
      refine (next_any base g (n + (14 - (k + 1)) * 20 + 66) _ _ (HS3.out.less (by omega)) (by omega)).mono ?_
      rintro e w4 ⟨r4, rfl, ⟨ha4, hb4⟩, hE4, hS4⟩
      replace hb4 := hb4 (by omega)
      have HE4 := hd (HE3.out.trans hE4)
      have HS4 := hd hS4
      clear hE4 hS4
      go_wp2_with fail
      refine (next_any base g (n + (14 - (k + 1)) * 20 + 64) _ _ (HS4.out.less (by omega)) (by omega)).mono ?_
      rintro e w5 ⟨r5, rfl, ⟨ha5, hb5⟩, hE5, hS5⟩
      replace hb5 := hb5 (by omega)
      have HE5 := hd (HE4.out.trans hE5)
      have HS5 := hd hS5
      clear hE5 hS5
      go_wp2_with fail
      refine (range_any base g (n + (14 - (k + 1)) * 20 + 62) _ _ _ (HS5.out.less (by omega)) (by omega) (by omega)).mono ?_
      rintro e w6 ⟨r6, rfl, _, hE6, hS6⟩
      have HE6 := hd (HE5.out.trans hE6)
      have HS6 := hd hS6
      have hg6 : g < w6.heap.size := hS6.lt
      clear hE6 hS6
      go_wp2_with fail
      refine (pick_any base g (n + (14 - (k + 1)) * 20 + 60) w6.heap.size 7 3 [1, 1, 2, 3, 4, 6, r6] _ ((HS6.out.less (by omega)).alloc _) (Blk.new _ _ _) (by omega) (by simp)).mono ?_
      rintro e w7 ⟨r7, rfl, _, hE7, hS7⟩
      have HE7 := hd ((HE6.out.alloc _).trans hE7)
      have HS7 := hd hS7
      have hw67 : wr.heap.size ≤ w7.heap.size := HE7.out.size
      clear hE7 hS7
      have HNG : Hd (∀ q, (_ : Value).ownBlock = some q → q ∉ [g]) := hd (fun q hq hm => by have := own_base HO.out q hq; rw [List.mem_singleton.1 hm] at this; omega)
      go_wp2_with (
        refine wpList_append_lies _ rfl _ _ 48 rfl w.heap.size 53 i0 _ 4 32 Try.underlying48 hi0 hz0 hz1 hz2 rfl (by decide) _ k (lifeCells ls) rfl (own_ext HO.out (HE7.out.alloc _) HNG.out) ⟨w7.heap.size, 0, none⟩ 1 1 (Lf.cells ⟨r4, r3, r3 + r5, r7⟩) rfl rfl ?c1 ?c2 (by decide) ?c3 ?c4 ?c5 _ rfl ?_
        case c1 => exact World.news_of_block (Blk.new _ _ _)
        case c2 => intro u hu; simp [Lf.cells] at hu; rcases hu with rfl | rfl | rfl | rfl <;> rfl
        case c3 => unfold maxLen; omega
        case c4 => omega
        case c5 => simp; omega
        intro g2 cap2 w8 ho hg ha hlt2
        have HN : Hd (LivSt base g (n + (14 - (k + 1)) * 20 + 50) w (k + 1) (.slice (some ⟨g2, 0, none⟩) (k + 1) cap2) w8) := hd (live_next HE.out HE7.out HO.out (HS7.out.less (by omega)) HBW.out hgw HLN.out HSM.out ⟨by simp only; omega, by simp only; omega, by simp only; omega, by simp only; omega⟩ hg ho)
        clear ho hg ha hlt2)
      go_roundw
      case rel => exact ⟨k + 1, by go_num, by omega, HN⟩
      case measure => simp [intOf]; omega
    · obtain ⟨hE, hS, ls, hlen, hsm, ho⟩ := HLk.out
      obtain ⟨A1, cap1, rfl, hcap1, hA1⟩ := own_form ho
      have HE := hd hE
      have HS := hd hS
      have HSM := hd hsm
      have HLN := hd hlen
      have hk14 : k ≤ 13 := by omega
      by_cases hk0 : k = 0
      · subst hk0
        have hl0 : ls = [] := List.eq_nil_of_length_eq_zero hlen
        have hAb : ∀ a, A1 = some a → w.heap.size ≤ a.block := fun a ha => by
          subst ha
          rcases ho.2 with ⟨he, _⟩ | ⟨g', cap', cur, he, hb, _⟩
          · cases he
          · cases he; exact hb
        have HAB := hd hAb
        have HL0' := hd hl0
        clear hE hS hlen hsm ho hA1 hAb hl0
        go_wp2_with fail
        go_ret
        exact ⟨A1, cap1, 0, [], rfl, rfl, .inl rfl, by simp, by omega, HAB.out, by omega, HE.out, HS.out.less (by omega)⟩
      · obtain ⟨g1, rfl, hg1, hg1s⟩ := hA1 (by omega)
        have HB := hd (LfB.own ho)
        have hgg1 : g < g1 := by omega
        clear hE hS hlen hsm ho hA1
        go_wp2_with fail
        refine (flip_any base g (n + 40) _ _ (HS.out.less (by omega)) (by omega)).mono ?_
        rintro e w5 ⟨fb, rfl, hE5, hS5⟩
        have HE5 := hd (HE.out.trans hE5)
        have HS5 := hd hS5
        have HB5 := hd (HB.out.ext hE5 (by simp; omega))
        clear hE5 hS5
        cases fb
        · go_wp2_with fail
          go_ret
          exact ⟨_, _, k, ls, rfl, HLN.out, HB5.out.rd, HSM.out, by omega, fun a ha => by cases ha; exact hg1, by omega, HE5.out, HS5.out.less (by omega)⟩
        · go_wp2_with fail
          refine (next_any base g (n + 30) _ _ (HS5.out.less (by omega)) (by omega)).mono ?_
          rintro e w6 ⟨ri, rfl, ⟨hi0, hi1⟩, hE6, hS6⟩
          obtain ⟨i, rfl⟩ : ∃ q : Nat, ri = q := ⟨ri.toNat, by omega⟩
          have hik : i < k := by have := hi1 (by omega); omega
          have HE6 := hd (HE5.out.trans hE6)
          have HS6 := hd hS6
          have HB6 := hd (HB5.out.ext hE6 (by simp; omega))
          have hg6 : g < w6.heap.size := hS6.lt
          have hg16 : g1 < w6.heap.size := HB6.out.lt
          clear hE6 hS6 hi0 hi1
          go_wp2_with fail
          refine (next_any base g (n + 20) 5 _ ((HS6.out.less (by omega)).alloc _) (by omega)).mono ?_
          rintro e w8 ⟨rt, rfl, ⟨ht0, ht1⟩, hE8, hS8⟩
          have hT8 := (Blk.new w6 53 (lifeCells [⟨0, -1, 0, 1⟩, ⟨0, 3, 2, 1⟩, ⟨0, 0, 0, 0⟩, ⟨0, 0, 0, 1025⟩, ⟨0, 0, 0, 1024⟩]).toArray).ext hE8 (by simp; omega)
          have qt := hT8.cell
          have qtl := hT8.lt
          have hEE := ((Ext.refl [g] w6).alloc (.cells (lifeCells [⟨0, -1, 0, 1⟩, ⟨0, 3, 2, 1⟩, ⟨0, 0, 0, 0⟩, ⟨0, 0, 0, 1025⟩, ⟨0, 0, 0, 1024⟩]).toArray 53)).trans hE8
          have HE8 := hd (HE6.out.trans hEE)
          have HS8 := hd hS8
          have HB8 := hd (HB6.out.ext hEE (by simp; omega))
          obtain ⟨x0, hx0⟩ : ∃ x, ls[i]? = some x := ⟨_, List.getElem?_eq_getElem (by have := HLN.out; omega)⟩
          have c0 := HB8.out.cell hx0 0 _ rfl
          have c1 := HB8.out.cell hx0 1 _ rfl
          have c2 := HB8.out.cell hx0 2 _ rfl
          have c3 := HB8.out.cell hx0 3 _ rfl
          have cf := HB8.out.frozen
          have cl := HB8.out.lt
          have ht5 : rt = 0 ∨ rt = 1 ∨ rt = 2 ∨ rt = 3 ∨ rt = 4 := by have := ht1 (by omega); omega
          simp only [Nat.add_zero] at c0
          simp only [lifeCells, Lf.cells, List.flatMap_cons, List.flatMap_nil, List.append_nil, List.cons_append, List.nil_append] at qt
          clear hE8 hS8 hT8 hEE hx0 ht0 ht1
          rcases ht5 with rfl | rfl | rfl | rfl | rfl
          · go_wp2_with fail
            go_ret
            have HF := HB8.out.set i (by have := HLN.out; omega) ⟨0, -1, 0, 1⟩
            refine ⟨_, _, k, ls.set i ⟨0, -1, 0, 1⟩, rfl, by rw [List.length_set, HLN.out], HF.rd, ?_, by omega, fun a ha => by cases ha; exact hg1, by omega, Ext.setAt (.inr hg1) (Ext.setAt (.inr hg1) (Ext.setAt (.inr hg1) (Ext.setAt (.inr hg1) HE8.out))), Stm.setAt (by omega) (by have := HBW.out; omega) (Stm.setAt (by omega) (by have := HBW.out; omega) (Stm.setAt (by omega) (by have := HBW.out; omega) (Stm.setAt (by omega) (by have := HBW.out; omega) (HS8.out.less (by omega)))))⟩
            exact small_set HSM.out i _ ⟨by decide, by decide, by decide, by decide⟩
          · go_wp2_with fail
            go_ret
            have HF := HB8.out.set i (by have := HLN.out; omega) ⟨0, 3, 2, 1⟩
            refine ⟨_, _, k, ls.set i ⟨0, 3, 2, 1⟩, rfl, by rw [List.length_set, HLN.out], HF.rd, ?_, by omega, fun a ha => by cases ha; exact hg1, by omega, Ext.setAt (.inr hg1) (Ext.setAt (.inr hg1) (Ext.setAt (.inr hg1) (Ext.setAt (.inr hg1) HE8.out))), Stm.setAt (by omega) (by have := HBW.out; omega) (Stm.setAt (by omega) (by have := HBW.out; omega) (Stm.setAt (by omega) (by have := HBW.out; omega) (Stm.setAt (by omega) (by have := HBW.out; omega) (HS8.out.less (by omega)))))⟩
            exact small_set HSM.out i _ ⟨by decide, by decide, by decide, by decide⟩
          · go_wp2_with fail
            go_ret
            have HF := HB8.out.set i (by have := HLN.out; omega) ⟨0, 0, 0, 0⟩
            refine ⟨_, _, k, ls.set i ⟨0, 0, 0, 0⟩, rfl, by rw [List.length_set, HLN.out], HF.rd, ?_, by omega, fun a ha => by cases ha; exact hg1, by omega, Ext.setAt (.inr hg1) (Ext.setAt (.inr hg1) (Ext.setAt (.inr hg1) (Ext.setAt (.inr hg1) HE8.out))), Stm.setAt (by omega) (by have := HBW.out; omega) (Stm.setAt (by omega) (by have := HBW.out; omega) (Stm.setAt (by omega) (by have := HBW.out; omega) (Stm.setAt (by omega) (by have := HBW.out; omega) (HS8.out.less (by omega)))))⟩
            exact small_set HSM.out i _ ⟨by decide, by decide, by decide, by decide⟩
          · go_wp2_with fail
            go_ret
            have HF := HB8.out.set i (by have := HLN.out; omega) ⟨0, 0, 0, 1025⟩
            refine ⟨_, _, k, ls.set i ⟨0, 0, 0, 1025⟩, rfl, by rw [List.length_set, HLN.out], HF.rd, ?_, by omega, fun a ha => by cases ha; exact hg1, by omega, Ext.setAt (.inr hg1) (Ext.setAt (.inr hg1) (Ext.setAt (.inr hg1) (Ext.setAt (.inr hg1) HE8.out))), Stm.setAt (by omega) (by have := HBW.out; omega) (Stm.setAt (by omega) (by have := HBW.out; omega) (Stm.setAt (by omega) (by have := HBW.out; omega) (Stm.setAt (by omega) (by have := HBW.out; omega) (HS8.out.less (by omega)))))⟩
            exact small_set HSM.out i _ ⟨by decide, by decide, by decide, by decide⟩
          · go_wp2_with fail
            go_ret
            have HF := HB8.out.set i (by have := HLN.out; omega) ⟨0, 0, 0, 1024⟩
            refine ⟨_, _, k, ls.set i ⟨0, 0, 0, 1024⟩, rfl, by rw [List.length_set, HLN.out], HF.rd, ?_, by omega, fun a ha => by cases ha; exact hg1, by omega, Ext.setAt (.inr hg1) (Ext.setAt (.inr hg1) (Ext.setAt (.inr hg1) (Ext.setAt (.inr hg1) HE8.out))), Stm.setAt (by omega) (by have := HBW.out; omega) (Stm.setAt (by omega) (by have := HBW.out; omega) (Stm.setAt (by omega) (by have := HBW.out; omega) (Stm.setAt (by omega) (by have := HBW.out; omega) (HS8.out.less (by omega)))))⟩
            exact small_set HSM.out i _ ⟨by decide, by decide, by decide, by decide⟩
end Go.Proofs.Ytedabpldigcffaa
