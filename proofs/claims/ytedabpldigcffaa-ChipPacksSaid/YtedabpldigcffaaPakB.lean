/- The stream's pairs; Together: the walk. Condition: the stream has numbers left. -/
import Derived.Test.YtedabpldigcffaaStream
import Derived.Test.YtedabpldigcffaaCoder
import Derived.Test.YtedabpldigcffaaChipA
import Derived.Test.YtedabpldigcffaaOne
import Derived.Test.YtedabpldigcffaaPakA
import Derived.Deep.AppendLies
namespace Go.Proofs.Ytedabpldigcffaa
open Go.RowKit
set_option linter.unusedSimpArgs false
set_option linter.unusedVariables false

def prCell (x : Pr) : List Value := [.int .i64 x.1, .int .i64 x.2]
def prCells (l : List Pr) : List Value := l.flatMap prCell
theorem prCells_snoc (l : List Pr) (x : Pr) : prCells (l ++ [x]) = prCells l ++ prCell x := by simp [prCells]
theorem prCells_get (xs : List Pr) (k : Nat) (x : Pr) (h : xs[k]? = some x) (j : Nat) (v : Value) (hv : (prCell x)[j]? = some v) : (prCells xs)[k * 2 + j]? = some v := by
  induction xs generalizing k with
  | nil => simp at h
  | cons y l ih =>
    have hc : prCells (y :: l) = prCell y ++ prCells l := rfl
    have hl : (prCell y).length = 2 := rfl
    have hj : j < 2 := (List.getElem?_eq_some_iff.1 hv).1
    cases k with
    | zero =>
      simp at h; subst h
      rw [hc, Nat.zero_mul, Nat.zero_add, List.getElem?_append_left (by omega)]
      exact hv
    | succ k =>
      rw [hc, List.getElem?_append_right (by omega), hl, show (k + 1) * 2 + j - 2 = k * 2 + j by omega]
      exact ih k (by simpa using h)
/-- The slice's cells read as the pairs. -/
def RdP (w : World) (A : Option Addr) (xs : List Pr) : Prop :=
  xs = [] ∨ ∃ b o, A = some ⟨b, o, none⟩ ∧ ∀ k x, xs[k]? = some x → w.cell? ⟨b, o + k * 2, none⟩ = some (.int .i64 x.1) ∧ w.cell? ⟨b, o + k * 2 + 1, none⟩ = some (.int .i64 x.2)
theorem RdP.ext {S : List Nat} {w w' : World} {A : Option Addr} {xs : List Pr} (h : RdP w A xs) (hE : Ext S w w') (hS : ∀ a, A = some a → a.block ∉ S) : RdP w' A xs := by
  rcases h with h | ⟨b, o, rfl, h⟩
  · exact .inl h
  · exact .inr ⟨b, o, rfl, fun k x hx => ⟨hE.held (h k x hx).1 (show b ∉ S from hS ⟨b, o, none⟩ rfl), hE.held (h k x hx).2 (show b ∉ S from hS ⟨b, o, none⟩ rfl)⟩⟩
/-- The k-th pair. -/
def gp (xs : List Pr) (k : Nat) : Pr := xs.getD k (0, 0)
theorem gp_lt {xs : List Pr} {k : Nat} (h : k < xs.length) : xs[k]? = some (gp xs k) := by
  unfold gp; rw [List.getD_eq_getElem?_getD, List.getElem?_eq_getElem h]; rfl
theorem RdP.at {w : World} {A : Option Addr} {xs : List Pr} (h : RdP w A xs) {k : Nat} (hk : k < xs.length) :
    ∃ b o, A = some ⟨b, o, none⟩ ∧ b < w.heap.size ∧ w.cell? ⟨b, o + k * 2, none⟩ = some (.int .i64 (gp xs k).1) ∧ w.cell? ⟨b, o + k * 2 + 1, none⟩ = some (.int .i64 (gp xs k).2) := by
  rcases h with h | ⟨b, o, rfl, h⟩
  · simp [h] at hk
  · exact ⟨b, o, rfl, World.block_lt_of_cell? w ⟨b, _, none⟩ (h k _ (gp_lt hk)).1, (h k _ (gp_lt hk)).1, (h k _ (gp_lt hk)).2⟩
/-- Block b begins with the pairs; its cells can be written. -/
def PrB (w : World) (b : Nat) (xs : List Pr) : Prop := ∃ cur, Blk w b 69 cur ∧ ∀ k x, xs[k]? = some x → ∀ (j : Nat) (v : Value), (prCell x)[j]? = some v → cur[k * 2 + j]? = some v
theorem PrB.ext {S : List Nat} {w w' : World} {b : Nat} {xs : List Pr} (h : PrB w b xs) (hE : Ext S w w') (hS : b ∉ S) : PrB w' b xs := by
  obtain ⟨cur, hB, hc⟩ := h
  exact ⟨cur, hB.ext hE hS, hc⟩
theorem PrB.lt {w : World} {b : Nat} {xs : List Pr} (h : PrB w b xs) : b < w.heap.size := by obtain ⟨cur, hB, _⟩ := h; exact hB.lt
theorem PrB.frozen {w : World} {b : Nat} {xs : List Pr} (h : PrB w b xs) (k : Nat) : w.frozen? ⟨b, k, none⟩ = false := by
  obtain ⟨cur, hB, hc⟩ := h; exact hB.frozen k
theorem PrB.cell {w : World} {b : Nat} {xs : List Pr} (h : PrB w b xs) {k : Nat} {x : Pr} (hx : xs[k]? = some x) (j : Nat) (v : Value) (hv : (prCell x)[j]? = some v) : w.cell? ⟨b, k * 2 + j, none⟩ = some v := by
  obtain ⟨cur, hB, hc⟩ := h
  rw [hB.cell]; exact hc k x hx j v hv
theorem PrB.rd {w : World} {b : Nat} {xs : List Pr} (h : PrB w b xs) : RdP w (some ⟨b, 0, none⟩) xs :=
  .inr ⟨b, 0, rfl, fun k x hx => by
    rw [Nat.zero_add]
    exact ⟨h.cell hx 0 _ rfl, h.cell hx 1 _ rfl⟩⟩
theorem PrB.set1 {w : World} {b : Nat} {xs : List Pr} (h : PrB w b xs) (i : Nat) (x0 : Pr) (hi : xs[i]? = some x0) (y : Int) : PrB (w.setCell ⟨b, i * 2 + 1, none⟩ (.int .i64 y)) b (xs.set i (x0.1, y)) := by
  obtain ⟨cur, hB, hc⟩ := h
  refine ⟨_, hB.set_ (i * 2 + 1) _, fun k x hx j v hv => ?_⟩
  have hj : j < 2 := (List.getElem?_eq_some_iff.1 hv).1
  have h1 := hc i x0 hi 1 _ rfl
  have s1 : i * 2 + 1 < cur.size := (Array.getElem?_eq_some_iff.1 h1).1
  rw [List.getElem?_set] at hx
  by_cases hik : i = k
  · subst hik
    rw [if_pos rfl] at hx
    split at hx
    · cases hx
      match j, hj, hv with
      | 0, _, hv => cases hv; rw [Array.getElem?_setIfInBounds_ne (by omega)]; exact hc i x0 hi 0 _ rfl
      | 1, _, hv => cases hv; simp [Array.getElem?_setIfInBounds, s1]
    · cases hx
  · rw [if_neg hik] at hx
    rw [Array.getElem?_setIfInBounds_ne (by omega)]
    exact hc k x hx j v hv
theorem PrB.own {w : World} {base b n cap : Nat} {xs : List Pr} (h : w.ownsRow base 69 2 (.slice (some ⟨b, 0, none⟩) n cap) n (prCells xs)) : PrB w b xs := by
  obtain ⟨hl, hx⟩ := h
  rcases hx with ⟨h0, _⟩ | ⟨g', cap', cur, h0, _, hg, hnc, hm, hc, ht⟩
  · cases h0
  · cases h0
    refine ⟨cur, hg, fun k x hx j v hv => ?_⟩
    have h1 := prCells_get xs k x hx j v hv
    have hlt : k * 2 + j < n * 2 := by rw [← hl]; exact (List.getElem?_eq_some_iff.1 h1).1
    rw [← ht, List.getElem?_take, if_pos hlt] at h1
    simpa using h1
theorem Try.info69 : (Try.prog.info? 69).map (fun i => (i.zero, i.size, i.bytes)) = some (some (.agg #[.int .i64 0, .int .i64 0]), 2, 16) := by kernel_rfl

/-- The stream's pairs. -/
def PairsP (base g n : Nat) (w : World) (e : Ending) (w' : World) : Prop :=
  ∃ A cap m prs, e = .returned (.slice A m cap) ∧ prs.length = m ∧ RdP w' A prs ∧ m ≤ 7 ∧ (∀ a, A = some a → w.heap.size ≤ a.block ∧ a.block < w'.heap.size) ∧ Ext [g] w w' ∧ Stm w' base g n
/-- The pairs so far. -/
def PrSt (base g n : Nat) (w : World) (k : Nat) (v : Value) (wr : World) : Prop :=
  Ext [g] w wr ∧ Stm wr base g n ∧ ∃ m, m ≤ k ∧ ∃ prs : List Pr, prs.length = m ∧ wr.ownsRow w.heap.size 69 2 v m (prCells prs)
theorem pair_next {base g n k m g2 cap2 : Nat} {w wr w7 w8 : World} {o : Obj} {v : Value} {prs : List Pr} {x : Pr} (hE : Ext [g] w wr) (hE7 : Ext [g] wr w7) (h0 : wr.ownsRow w.heap.size 69 2 v m (prCells prs)) (hS : Stm w7 base g n) (hb : base ≤ w.heap.size) (hgw : g < w.heap.size)
    (hl : prs.length = m) (hm : m ≤ k) (hg : (w7.alloc o).grownBy w8 v.ownBlock) (ho : w8.ownsRow w.heap.size 69 2 (.slice (some ⟨g2, 0, none⟩) (m + 1) cap2) (m + 1) (prCells prs ++ prCell x)) :
    PrSt base g n w (k + 1) (.slice (some ⟨g2, 0, none⟩) (m + 1) cap2) w8 := by
  refine ⟨((hE.trans hE7).alloc _).grown hg (fun q hq => .inr (own_base h0 q hq)), ?_, m + 1, by omega, prs ++ [x], by simp [hl], by rw [prCells_snoc]; exact ho⟩
  refine (hS.alloc o).ext (S := v.ownBlock.toList) ((Ext.refl _ _).grown hg (fun q hq => .inl (by simp [hq]))) (fun hm => ?_) (fun y hy => ?_)
  · have := own_base h0 g (by simpa using hm); omega
  · have := own_base h0 y (by simpa using hy); omega

set_option maxHeartbeats 4000000 in
set_option maxRecDepth 100000 in
theorem pairs_any (base g n : Nat) (m : Int) (w : World) (h : Stm w base g (n + 400)) (hm : m ≤ 1000) :
    Calls Try.prog 10 #[.pointer (some ⟨g, 0, none⟩), .int .i64 m] w (PairsP base g n w) := by
  obtain ⟨i0, hi0, hz0, hz1, hz2⟩ := info_parts Try.info69
  have HST := hd h
  have HBW : Hd (base ≤ w.heap.size) := hd (Nat.le_trans h.base (Nat.le_of_lt h.lt))
  have hgw : g < w.heap.size := h.lt
  clear h
  go_enter Try.func10, Try.ntmps10
  go_wp2_with fail
  refine (next_any base g (n + 380) 7 _ (HST.out.less (by omega)) (by omega)).mono ?_
  rintro e w2 ⟨rn, rfl, ⟨hn0, hn1⟩, hE2, hS2⟩
  have hn14 : rn < 7 := hn1 (by omega)
  have HL0 : Hd (PrSt base g (n + (7 - 0) * 20 + 50) w 0 (.slice none 0 0) w2) := hd ⟨hE2, hS2.less (by omega), 0, Nat.le_refl _, [], rfl, rfl, .inl ⟨rfl, rfl⟩⟩
  clear hE2 hS2 hn1
  go_wp2_with fail
  go_loopw [5, 9] (fun v i wr => ∃ k : Nat, i = .int .i64 k ∧ (k : Int) ≤ rn ∧ Hd (PrSt base g (n + (7 - k) * 20 + 50) w k v wr)) (fun _ i _ => (rn - intOf i).toNat)
  case atStart => exact ⟨0, rfl, by omega, HL0⟩
  case round =>
    obtain ⟨k, rfl, hk, HLk⟩ := hrel
    obtain ⟨hE, hS, j, hj, prs, hlen, ho⟩ := HLk.out
    have HE := hd hE
    have HS := hd hS
    have HO := hd ho
    have HLN := hd hlen
    have hww : w.heap.size ≤ wr.heap.size := hE.size
    by_cases hlt : (k : Int) < rn
    · clear hE hS hlen ho
      go_wp2_with fail
      refine (next_any base g (n + (7 - (k + 1)) * 20 + 68) _ _ (HS.out.less (by omega)) (by omega)).mono ?_
      rintro e w3 ⟨r3, rfl, _, hE3, hS3⟩
      have HE3 := hd hE3
      have HS3 := hd hS3
      clear hE3 hS3
      go_wp2_with fail
      refine (next_any base g (n + (7 - (k + 1)) * 20 + 66) _ _ (HS3.out.less (by omega)) (by omega)).mono ?_
      rintro e w4 ⟨r4, rfl, _, hE4, hS4⟩
      have HE4 := hd (HE3.out.trans hE4)
      have HS4 := hd hS4
      clear hE4 hS4
      have HV := hd (Blk.new w4 69 #[.int .i64 r3, .int .i64 r4])
      have HE5 := hd (HE4.out.alloc (.cells #[.int .i64 r3, .int .i64 r4] 69))
      have HS5 := hd (HS4.out.alloc (.cells #[.int .i64 r3, .int .i64 r4] 69))
      have hw5 : wr.heap.size ≤ w4.heap.size := HE4.out.size
      go_upto_region 5 with fail
      generalize hP : w4.heap.size = p at *
      generalize w4.alloc (.cells #[.int .i64 r3, .int .i64 r4] 69) = w5 at *
      clear hP
      have q1 := HV.out.cell
      have q2 := HV.out.lt
      have HNG : Hd (∀ q, (_ : Value).ownBlock = some q → q ∉ [g]) := hd (fun q hq hm => by have := own_base HO.out q hq; rw [List.mem_singleton.1 hm] at this; omega)
      by_cases hc : r3 = r4
      · subst hc
        go_wp2_with fail
        refine (flip_any base g (n + (7 - (k + 1)) * 20 + 64) _ _ (HS5.out.less (by omega)) (by omega)).mono ?_
        rintro e w6 ⟨fb, rfl, hE6, hS6⟩
        have HE6 := hd (HE5.out.trans hE6)
        have HS6 := hd hS6
        have HV6 := hd (HV.out.ext hE6 (by simp; omega))
        clear hE6 hS6 q1 q2
        have q1 := HV6.out.cell
        have q2 := HV6.out.lt
        cases fb
        · have HN : Hd (PrSt base g (n + (7 - (k + 1)) * 20 + 50) w (k + 1) (_ : Value) w6) := hd ⟨HE.out.trans HE6.out, HS6.out.less (by omega), j, by omega, prs, HLN.out, own_ext HO.out HE6.out HNG.out⟩
          go_wp2_with fail
          go_roundw
          case rel => exact ⟨k + 1, by go_num, by omega, HN⟩
          case measure => simp [intOf]; omega
        · go_wp2_with (
            refine wpList_append_lies _ rfl _ _ 28 rfl w.heap.size 69 i0 _ 2 16 Try.underlying28 hi0 hz0 hz1 hz2 rfl (by decide) _ j (prCells prs) rfl (own_ext HO.out (HE6.out.alloc _) HNG.out) ⟨w6.heap.size, 0, none⟩ 1 1 (prCell (r3, r3)) rfl rfl ?c1 ?c2 (by decide) ?c3 ?c4 ?c5 _ rfl ?_
            case c1 => exact World.news_of_block (Blk.new _ _ _)
            case c2 => intro u hu; simp [prCell] at hu; rcases hu with rfl | rfl <;> rfl
            case c3 => unfold maxLen; omega
            case c4 => omega
            case c5 => have := HE6.out.size; simp; omega
            intro g2 cap2 w8 ho hg ha hlt2
            have HN : Hd (PrSt base g (n + (7 - (k + 1)) * 20 + 50) w (k + 1) (.slice (some ⟨g2, 0, none⟩) (j + 1) cap2) w8) := hd (pair_next (x := (r3, r3)) HE.out HE6.out HO.out (HS6.out.less (by omega)) HBW.out hgw HLN.out hj hg ho)
            clear ho hg ha hlt2)
          go_roundw
          case rel => exact ⟨k + 1, by go_num, by omega, HN⟩
          case measure => simp [intOf]; omega
      · have hcb : decide (r3 = r4) = false := by simpa using hc
        have hcc : (r3 == r4) = false := by simpa using hc
        go_wp2_with (
            refine wpList_append_lies _ rfl _ _ 28 rfl w.heap.size 69 i0 _ 2 16 Try.underlying28 hi0 hz0 hz1 hz2 rfl (by decide) _ j (prCells prs) rfl (own_ext HO.out (HE5.out.alloc _) HNG.out) ⟨w5.heap.size, 0, none⟩ 1 1 (prCell (r3, r4)) rfl rfl ?c1 ?c2 (by decide) ?c3 ?c4 ?c5 _ rfl ?_
            case c1 => exact World.news_of_block (Blk.new _ _ _)
            case c2 => intro u hu; simp [prCell] at hu; rcases hu with rfl | rfl <;> rfl
            case c3 => unfold maxLen; omega
            case c4 => omega
            case c5 => have := HE5.out.size; simp; omega
            intro g2 cap2 w8 ho hg ha hlt2
            have HN : Hd (PrSt base g (n + (7 - (k + 1)) * 20 + 50) w (k + 1) (.slice (some ⟨g2, 0, none⟩) (j + 1) cap2) w8) := hd (pair_next (x := (r3, r4)) HE.out HE5.out HO.out (HS5.out.less (by omega)) HBW.out hgw HLN.out hj hg ho)
            clear ho hg ha hlt2)
        go_roundw
        case rel => exact ⟨k + 1, by go_num, by omega, HN⟩
        case measure => simp [intOf]; omega
    · obtain ⟨A1, cap1, rfl, hcap1, hA1⟩ := own_form ho
      by_cases hj0 : j = 0
      · subst hj0
        have hl0 : prs = [] := List.eq_nil_of_length_eq_zero hlen
        have hAb : ∀ a, A1 = some a → w.heap.size ≤ a.block ∧ a.block < wr.heap.size := fun a ha => by
          subst ha
          rcases ho.2 with ⟨he, _⟩ | ⟨g', cap', cur, he, hb, hgg, _⟩
          · cases he
          · cases he; exact ⟨hb, (Array.getElem?_eq_some_iff.1 hgg).1⟩
        have HAB := hd hAb
        clear hE hS hlen ho hA1 hAb hl0
        go_wp2_with fail
        go_ret
        exact ⟨A1, cap1, 0, [], rfl, rfl, .inl rfl, by omega, HAB.out, HE.out, HS.out.less (by omega)⟩
      · obtain ⟨g1, rfl, hg1, hg1s⟩ := hA1 (by omega)
        have HB := hd (PrB.own ho)
        have hgg1 : g < g1 := by omega
        have hj7 : j ≤ 7 := by omega
        clear hE hS hlen ho hA1
        go_wp2_with fail
        refine (flip_any base g (n + 40) _ _ (HS.out.less (by omega)) (by omega)).mono ?_
        rintro e w5 ⟨fb, rfl, hE5, hS5⟩
        have HE5 := hd (HE.out.trans hE5)
        have HS5 := hd hS5
        have HB5 := hd (HB.out.ext hE5 (by simp; omega))
        clear hE5 hS5
        cases fb
        · go_wp2_with fail
          go_ret
          exact ⟨_, _, j, prs, rfl, HLN.out, HB5.out.rd, by omega, fun a ha => by cases ha; exact ⟨hg1, HB5.out.lt⟩, HE5.out, HS5.out.less (by omega)⟩
        · have hg5 : g < w5.heap.size := HS5.out.lt
          have hg15 : g1 < w5.heap.size := HB5.out.lt
          go_wp2_with fail
          refine (pick_any base g (n + 20) w5.heap.size 2 3 [-1, m] _ ((HS5.out.less (by omega)).alloc _) (Blk.new _ _ _) (by omega) (by simp)).mono ?_
          rintro e w6 ⟨y, rfl, _, hE6, hS6⟩
          have hEE := ((Ext.refl [g] w5).alloc (.cells (Nums [-1, m]) 3)).trans hE6
          have HE6 := hd (HE5.out.trans hEE)
          have HS6 := hd hS6
          have HB6 := hd (HB5.out.ext hEE (by simp; omega))
          obtain ⟨x0, hx0⟩ : ∃ x, prs[0]? = some x := ⟨_, List.getElem?_eq_getElem (by have := HLN.out; omega)⟩
          have c0 := HB6.out.cell hx0 0 _ rfl
          have c1 := HB6.out.cell hx0 1 _ rfl
          have cf := HB6.out.frozen
          have cl := HB6.out.lt
          simp only [Nat.zero_mul, Nat.zero_add] at c0 c1
          have HX0 := hd hx0
          clear hE6 hS6 hEE hx0
          go_wp2_with fail
          go_ret
          exact ⟨_, _, j, prs.set 0 (x0.1, y), rfl, by rw [List.length_set, HLN.out], (HB6.out.set1 0 x0 HX0.out y).rd, by omega, fun a ha => by cases ha; exact ⟨hg1, (HB6.out.set1 0 x0 HX0.out y).lt⟩, Ext.setAt (.inr hg1) HE6.out, Stm.setAt (by omega) (by have := HBW.out; omega) (HS6.out.less (by omega))⟩

/-- The pairs so far in one bank. -/
def togK (ins : List Int) (prs : List Pr) (k : Nat) : Nat := ((prs.take k).filter (togB ins)).length
theorem togK_succ {ins : List Int} {prs : List Pr} {k : Nat} (h : k < prs.length) : togK ins prs (k + 1) = togK ins prs k + if togB ins (gp prs k) then 1 else 0 := by
  unfold togK
  rw [List.take_add_one, gp_lt h, List.filter_append]
  simp only [Option.toList_some, List.filter_cons, List.filter_nil]
  split <;> simp
theorem togK_le (ins : List Int) (prs : List Pr) (k : Nat) : togK ins prs k ≤ k := by
  unfold togK
  exact Nat.le_trans (List.length_filter_le _ _) (by simp; omega)
theorem RdI.at {w : World} {A : Option Addr} {xs : List Int} (h : RdI w A xs) {k : Nat} (hk : k < xs.length) :
    ∃ b o, A = some ⟨b, o, none⟩ ∧ b < w.heap.size ∧ w.cell? ⟨b, o + k, none⟩ = some (.int .i64 (gi xs k)) := by
  rcases h with h | ⟨b, o, rfl, h⟩
  · simp [h] at hk
  · exact ⟨b, o, rfl, World.block_lt_of_cell? w ⟨b, _, none⟩ (h k _ (gi_lt hk)), h k _ (gi_lt hk)⟩

set_option maxHeartbeats 2000000 in
set_option maxRecDepth 100000 in
theorem together_any (A B : Option Addr) (capA capB n m : Nat) (ins : List Int) (prs : List Pr) (w : World) (hA : RdI w A ins) (hB : RdP w B prs) (hn : ins.length = n) (hm : prs.length = m) (hp : PrOk n prs) (hn1 : n ≤ 1000000) (hm1 : m ≤ 1000000) :
    Calls Try.prog 15 #[.slice A n capA, .slice B m capB] w fun e w' => e = .returned (.int .i64 (tog ins prs)) ∧ Ext [] w w' := by
  have HA := hd hA
  have HB := hd hB
  have HN := hd hn
  have HM := hd hm
  have HP := hd hp
  have HT : Hd (tog ins prs = (togK ins prs m : Nat)) := hd (by unfold tog togK; rw [← hm, List.take_length])
  clear hA hB hn hm hp
  go_enter Try.func15, Try.ntmps15
  go_wp2_with fail
  go_loopw [5, 10] (fun v i wr => ∃ k : Nat, i = .int .i64 k ∧ k ≤ m ∧ Hd (v = .int .i64 (togK ins prs k : Nat)) ∧ Hd (Ext [] w wr)) (fun _ i _ => (m - intOf i).toNat)
  case atStart => exact ⟨0, rfl, Nat.zero_le _, hd rfl, hd (Ext.refl _ _)⟩
  case round =>
    obtain ⟨k, rfl, hk, HV, HE⟩ := hrel
    have hv := HV.out
    subst hv
    clear HV
    rename World => w3
    by_cases hlt : k < m
    · obtain ⟨b, o, rfl, hb, h0, h1⟩ := (HB.out.ext HE.out (by simp)).at (k := k) (by have := HM.out; omega)
      have hpk := HP.out (gp prs k) (List.mem_of_getElem? (gp_lt (by have := HM.out; omega)))
      have HS := hd (togK_succ (ins := ins) (prs := prs) (k := k) (by have := HM.out; omega))
      have hbd := togK_le ins prs k
      rcases hpr : gp prs k with ⟨x, y⟩
      rw [hpr] at h0 h1 hpk HS
      obtain ⟨p1, p2, p3, p4, p5⟩ := hpk
      simp only at p1 p2 p3 p4 p5 h0 h1
      obtain ⟨x, rfl⟩ : ∃ q : Nat, x = q := ⟨x.toNat, by omega⟩
      obtain ⟨y, rfl⟩ : ∃ q : Nat, y = q := ⟨y.toNat, by omega⟩
      have HE3 := hd (HE.out.alloc (.cells #[.int .i64 (x : Int), .int .i64 (y : Int)] 69))
      have HV := hd (Blk.new w3 69 #[.int .i64 (x : Int), .int .i64 (y : Int)])
      go_upto_region 5 with fail
      generalize hP : w3.heap.size = p at *
      generalize w3.alloc (.cells #[.int .i64 (x : Int), .int .i64 (y : Int)] 69) = w4 at *
      clear hP h0 h1 hb hpr
      obtain ⟨b2, o2, rfl, hb2, i0⟩ := (HA.out.ext HE3.out (by simp)).at (k := x) (by have := HN.out; omega)
      obtain ⟨b3, o3, he, _, i1⟩ := (HA.out.ext HE3.out (by simp)).at (k := y) (by have := HN.out; omega)
      cases he
      have q1 := HV.out.cell
      have q2 := HV.out.lt
      have HB2 : Hd (togB ins ((x : Int), (y : Int)) = decide (gi ins x = gi ins y)) := hd (by unfold togB; simp)
      rw [HB2.out] at HS
      clear HB2
      generalize gi ins x = u at *
      generalize gi ins y = v at *
      generalize togK ins prs k = tk at *
      by_cases huv : u = v
      · have hub : decide (u = v) = true := by simpa using huv
        have HS2 : Hd (togK ins prs (k + 1) = tk + 1) := hd (by rw [HS.out, if_pos hub])
        go_quiet (fail)
        go_wp2_with fail
        go_roundw
        case rel => exact ⟨k + 1, by go_num, by omega, hd (by rw [HS2.out]; go_num), hd (HE3.out.drewN _)⟩
        case measure => simp [intOf]; omega
      · have hub : decide (u = v) = false := by simpa using huv
        have hub2 : (u == v) = false := by simpa using huv
        have HS2 : Hd (togK ins prs (k + 1) = tk) := hd (by rw [HS.out, hub]; rfl)
        go_quiet (fail)
        go_wp2_with fail
        go_roundw
        case rel => exact ⟨k + 1, by go_num, by omega, hd (by rw [HS2.out]), hd (HE3.out.drewN _)⟩
        case measure => simp [intOf]; omega
    · have hkm : k = m := by omega
      subst hkm
      go_wp2_with fail
      go_ret
      exact ⟨by rw [HT.out]; rfl, HE.out⟩
end Go.Proofs.Ytedabpldigcffaa
