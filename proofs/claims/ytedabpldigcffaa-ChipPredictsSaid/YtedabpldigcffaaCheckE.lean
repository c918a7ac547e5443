/- The checker's turns: how often each instruction is executed. -/
import Derived.Test.YtedabpldigcffaaCheckD
import Derived.WalkSmall
import Derived.Deep.OwnRows
import Derived.Laws.OwnMore
namespace Go.Proofs.Ytedabpldigcffaa
open Go.RowKit
set_option linter.unusedSimpArgs false
set_option linter.unusedVariables false

/-- The slice's cells from A on read as the code xs. -/
def RdC (w : World) (A : Option Addr) (xs : List Ins) : Prop :=
  xs = [] ∨ ∃ b o, A = some ⟨b, o, none⟩ ∧ ∀ k x, xs[k]? = some x → ∀ j v, x.cells[j]? = some v → w.cell? ⟨b, o + k * 9 + j, none⟩ = some v
theorem RdC.upto {B : Nat} {S : List Nat} {w w' : World} {A : Option Addr} {xs : List Ins} (h : RdC w A xs) (hE : Upto B S w w') (hS : ∀ a, A = some a → a.block < B ∧ a.block ∉ S) : RdC w' A xs := by
  rcases h with h | ⟨b, o, rfl, h⟩
  · exact .inl h
  · obtain ⟨h1, h2⟩ := hS ⟨b, o, none⟩ rfl
    exact .inr ⟨b, o, rfl, fun k x hx j v hv => (World.cell?_of_block (w := w) (hE.block b h1 h2)).trans (h k x hx j v hv)⟩
theorem RdC.ext {S : List Nat} {w w' : World} {A : Option Addr} {xs : List Ins} (h : RdC w A xs) (hE : Ext S w w') (hS : ∀ a, A = some a → a.block ∉ S) : RdC w' A xs := by
  rcases h with h | ⟨b, o, rfl, h⟩
  · exact .inl h
  · exact .inr ⟨b, o, rfl, fun k x hx j v hv => hE.held (h k x hx j v hv) (show b ∉ S from hS ⟨b, o, none⟩ rfl)⟩
/-- The nine cells of the k-th instruction. -/
theorem RdC.at {w : World} {A : Option Addr} {xs : List Ins} (h : RdC w A xs) {k : Nat} {x : Ins} (hx : xs[k]? = some x) :
    ∃ b o, A = some ⟨b, o, none⟩ ∧ b < w.heap.size ∧ ∀ j v, x.cells[j]? = some v → w.cell? ⟨b, o + k * 9 + j, none⟩ = some v := by
  rcases h with h | ⟨b, o, rfl, h⟩
  · simp [h] at hx
  · exact ⟨b, o, rfl, World.block_lt_of_cell? w ⟨b, _, none⟩ (h k x hx 0 _ rfl), h k x hx⟩

/-- The nesting's counts, the inmost first, after an instruction. -/
def stStep (st : List Int) (x : Ins) : List Int := if x.op = 3 then min (st.headD 0 * x.m) 40000001 :: st else if x.op = 4 then st.tail else st
def stAt (xs : List Ins) (k : Nat) : List Int := (xs.take k).foldl stStep [1]
theorem stAt_succ {xs : List Ins} {k : Nat} {x : Ins} (hx : xs[k]? = some x) : stAt xs (k + 1) = stStep (stAt xs k) x := by
  unfold stAt
  rw [List.take_add_one, hx, List.foldl_append]
  rfl
def loopsOk (xs : List Ins) : Prop := ∀ x ∈ xs, x.op = 3 → 0 ≤ x.m ∧ x.m ≤ 1000000
theorem stStep_bound {st : List Int} {x : Ins} (h : ∀ t ∈ st, 0 ≤ t ∧ t ≤ 40000001) (hx : x.op = 3 → 0 ≤ x.m ∧ x.m ≤ 1000000) : ∀ t ∈ stStep st x, 0 ≤ t ∧ t ≤ 40000001 := by
  unfold stStep
  split
  · rename_i h3
    intro t ht
    rcases List.mem_cons.1 ht with rfl | ht
    · have h0 : 0 ≤ st.headD 0 := by
        cases st with
        | nil => simp
        | cons a st => exact (h a (by simp)).1
      have := Int.mul_nonneg h0 (hx h3).1
      omega
    · exact h t ht
  · split
    · exact fun t ht => h t (List.mem_of_mem_tail ht)
    · exact h
theorem stAt_bound {xs : List Ins} (h : loopsOk xs) (k : Nat) : ∀ t ∈ stAt xs k, 0 ≤ t ∧ t ≤ 40000001 := by
  unfold stAt
  have h0 : ∀ x ∈ xs.take k, x.op = 3 → 0 ≤ x.m ∧ x.m ≤ 1000000 := fun x hx => h x (List.mem_of_mem_take hx)
  have h1 : ∀ t ∈ ([1] : List Int), 0 ≤ t ∧ t ≤ 40000001 := by simp
  generalize ([1] : List Int) = st at h1
  revert h1 st
  clear h
  generalize xs.take k = ys at h0
  induction ys with
  | nil => intro st h1; exact h1
  | cons x l ih => intro st h1; exact ih (fun y hy => h0 y (by simp [hy])) _ (stStep_bound h1 (h0 x (by simp)))
theorem stAt_length (xs : List Ins) (k : Nat) : (stAt xs k).length ≤ k + 1 := by
  unfold stAt
  have h : ∀ (l : List Ins) (st : List Int), (l.foldl stStep st).length ≤ l.length + st.length := by
    intro l
    induction l with
    | nil => intro st; simp
    | cons x l ih =>
      intro st
      have h2 : (stStep st x).length ≤ st.length + 1 := by
        unfold stStep
        split
        · simp
        · split <;> simp <;> omega
      have := ih (stStep st x)
      simp only [List.foldl_cons, List.length_cons]
      omega
  have := h (xs.take k) [1]
  simp only [List.length_take, List.length_singleton] at this
  omega
/-- How often each instruction is executed. -/
def turnsS (xs : List Ins) : List Int := (List.range xs.length).map fun j => (stAt xs j).headD 0
/-- The first k of it, then zeros. -/
def turnsK (xs : List Ins) (k : Nat) : List Int := (List.range xs.length).map fun j => if j < k then (stAt xs j).headD 0 else 0
theorem turnsK_all (xs : List Ins) : turnsK xs xs.length = turnsS xs := by
  unfold turnsK turnsS
  apply List.map_congr_left
  intro j hj
  simp at hj
  simp [hj]
theorem turnsK_zero (xs : List Ins) : turnsK xs 0 = List.replicate xs.length 0 := by
  unfold turnsK
  apply List.ext_getElem
  · simp
  · simp
theorem turnsK_succ (xs : List Ins) (k : Nat) : (Nums (turnsK xs k)).setIfInBounds k (.int .i64 ((stAt xs k).headD 0)) = Nums (turnsK xs (k + 1)) := by
  unfold turnsK Nums
  apply Array.ext
  · simp
  · intro i h1 h2
    by_cases hk : k = i
    · subst hk; simp
    · have h3 : (i < k + 1) = (i < k) := by apply propext; omega
      simp [hk, h3]

/-- Where turns stands. -/
structure TuSt (w : World) (B : Nat) (xs : List Ins) (k : Nat) (v : Value) (wr : World) : Prop where
  up : Ext [] w wr
  out : Blk wr B 3 (Nums (turnsK xs k))
  own : wr.ownsRow (B + 1) 3 1 v (stAt xs k).length (((stAt xs k).reverse).map (Value.int .i64))

theorem TuSt.start (w : World) (xs : List Ins) : TuSt w w.heap.size xs 0 (.slice (some ⟨w.heap.size + 1, 0, none⟩) 1 1) ((w.alloc (.cells (Nums (turnsK xs 0)) 3)).alloc (.cells #[.int .i64 1] 3)) where
  up := ((Ext.refl _ _).alloc _).alloc _
  out := (Blk.new _ _ _).alloc _
  own := ⟨by simp [stAt], .inr ⟨_, 1, #[.int .i64 1], rfl, Nat.le_refl _, by have := Blk.new' (w.alloc (.cells (Nums (turnsK xs 0)) 3)) 3 #[.int .i64 1] (w.heap.size + 1) (by simp); exact this, by simp [stAt], by decide, by simp, by simp [stAt]⟩⟩

section
variable {w : World} {xs : List Ins} {k : Nat} {t : Int} {st : List Int} {x : Ins} {g cap : Nat} {wr : World} {o : Obj}
/-- What is stored, and the block of the loop's variable. -/
theorem TuSt.stored (h : TuSt w w.heap.size xs k (.slice (some ⟨g, 0, none⟩) (st.length + 1) cap) wr) (hst : stAt xs k = t :: st) (o : Obj) :
    Ext [] w ((wr.setCell ⟨w.heap.size, k, none⟩ (.int .i64 t)).alloc o) ∧ Blk ((wr.setCell ⟨w.heap.size, k, none⟩ (.int .i64 t)).alloc o) w.heap.size 3 (Nums (turnsK xs (k + 1))) ∧
      ((wr.setCell ⟨w.heap.size, k, none⟩ (.int .i64 t)).alloc o).ownsRow (w.heap.size + 1) 3 1 (.slice (some ⟨g, 0, none⟩) (st.length + 1) cap) (st.length + 1) (((t :: st).reverse).map (Value.int .i64)) := by
  have ho := h.own
  rw [hst] at ho
  refine ⟨(h.up.setCell (.inr (Nat.le_refl _)) _).alloc _, (h.out.set_' k _ _ ?_).alloc _, (ownsRow_setCell_below ho (by simp) _).alloc _⟩
  rw [← turnsK_succ, hst]
  rfl
theorem TuSt.same (h : TuSt w w.heap.size xs k (.slice (some ⟨g, 0, none⟩) (st.length + 1) cap) wr) (hst : stAt xs k = t :: st) (hx : stAt xs (k + 1) = stStep (stAt xs k) x) (h3 : x.op ≠ 3) (h4 : x.op ≠ 4) :
    TuSt w w.heap.size xs (k + 1) (.slice (some ⟨g, 0, none⟩) (st.length + 1) cap) ((wr.setCell ⟨w.heap.size, k, none⟩ (.int .i64 t)).alloc o) := by
  obtain ⟨h1, h2, h5⟩ := h.stored hst o
  have hs : stAt xs (k + 1) = t :: st := by rw [hx, hst]; simp [stStep, h3, h4]
  exact ⟨h1, h2, by rw [hs]; exact h5⟩
theorem TuSt.pop (h : TuSt w w.heap.size xs k (.slice (some ⟨g, 0, none⟩) (st.length + 1) cap) wr) (hst : stAt xs k = t :: st) (hx : stAt xs (k + 1) = stStep (stAt xs k) x) (h4 : x.op = 4) :
    TuSt w w.heap.size xs (k + 1) (.slice (some ⟨g, 0, none⟩) st.length cap) ((wr.setCell ⟨w.heap.size, k, none⟩ (.int .i64 t)).alloc o) := by
  obtain ⟨h1, h2, h5⟩ := h.stored hst o
  have hs : stAt xs (k + 1) = st := by rw [hx, hst]; simp [stStep, h4]
  refine ⟨h1, h2, ?_⟩
  rw [hs]
  refine ownsRow_pop (last := [.int .i64 t]) (by simp) ?_
  simpa using h5
theorem TuSt.push {w2 : World} {o2 : Obj} {g2 cap2 : Nat} {q : Int} (h : TuSt w w.heap.size xs k (.slice (some ⟨g, 0, none⟩) (st.length + 1) cap) wr) (hst : stAt xs k = t :: st) (hx : stAt xs (k + 1) = stStep (stAt xs k) x) (h3 : x.op = 3)
    (hq : q = min (t * x.m) 40000001) (hgb : w.heap.size + 1 ≤ g)
    (ho : w2.ownsRow (w.heap.size + 1) 3 1 (.slice (some ⟨g2, 0, none⟩) (st.length + 1 + 1) cap2) (st.length + 1 + 1) (((t :: st).reverse).map (Value.int .i64) ++ [.int .i64 q]))
    (hg : (((wr.setCell ⟨w.heap.size, k, none⟩ (.int .i64 t)).alloc o).alloc o2).grownBy w2 (some g)) :
    TuSt w w.heap.size xs (k + 1) (.slice (some ⟨g2, 0, none⟩) (st.length + 1 + 1) cap2) w2 := by
  obtain ⟨h1, h2, h5⟩ := h.stored hst o
  have hs : stAt xs (k + 1) = q :: t :: st := by rw [hx, hst]; simp [stStep, h3, hq]
  refine ⟨(h1.alloc o2).grown hg (fun j hj => .inr (by cases hj; omega)), (h2.alloc o2).grown hg (by simp; omega), ?_⟩
  rw [hs]
  simpa using ho
end

set_option maxHeartbeats 2000000 in
set_option maxRecDepth 100000 in
theorem turns_any (A : Option Addr) (cap : Nat) (xs : List Ins) (w : World) (h : RdC w A xs) (hl : xs.length ≤ 100000) (hm : loopsOk xs) (hs : ∀ k, k ≤ xs.length → stAt xs k ≠ []) :
    Calls Try.prog 57 #[.slice A xs.length cap] w fun e w' => ∃ b : Nat, e = .returned (.slice (some ⟨b, 0, none⟩) xs.length xs.length) ∧ Ext [] w w' ∧ Blk w' b 3 (Nums (turnsS xs)) := by
  have HH := hd h
  have HS := hd hs
  have HB := hd (stAt_bound hm)
  have HM := hd hm
  clear h hs hm
  have hmk : ∀ W : World, (Instr.makeSlice 22 (.int .i64 xs.length) (.int .i64 xs.length)).run Try.prog W = .ok (.slice (some ⟨W.heap.size, 0, none⟩) xs.length xs.length) (W.alloc (.cells (Nums (turnsK xs 0)) 3)) := fun W => by
    rw [run_make_row' 22 3 (.int .i64 0) 8 Try.underlying22 (by kernel_rfl) rfl .i64 .i64 xs.length (by omega) (by omega) W, turnsK_zero]
    congr 3
    apply Array.ext
    · simp [Nums, madeCells]
    · intro i h1 h2
      simp [Nums, madeCells, Nat.mod_one]
  go_enter Try.func57, Try.ntmps57
  go_wp2_with fail
  go_loopw [4, 14] (fun v i wr => ∃ k : Nat, i = .int .i64 k ∧ k ≤ xs.length ∧ TuSt w w.heap.size xs k v wr) (fun _ i _ => (xs.length - intOf i).toNat)
  case atStart => exact ⟨0, rfl, by omega, TuSt.start w xs⟩
  case round =>
    obtain ⟨k, rfl, hk, hT⟩ := hrel
    by_cases hlt : k < xs.length
    · obtain ⟨x, hx⟩ : ∃ x, xs[k]? = some x := ⟨_, List.getElem?_eq_getElem hlt⟩
      obtain ⟨b, o, rfl, hb, hcx⟩ := ((HH.out.ext hT.up (by simp))).at hx
      have hbn := HS.out k hk
      obtain ⟨t, st, hst⟩ : ∃ t st, stAt xs k = t :: st := by
        cases h : stAt xs k with
        | nil => exact absurd h hbn
        | cons t st => exact ⟨t, st, rfl⟩
      have hown := hT.own
      rw [hst] at hown
      obtain ⟨g, cap', rfl, hg1, hg2⟩ := hown.form (by simp)
      have hcap : st.length + 1 ≤ cap' := by
        rcases hown.2 with ⟨h0, _⟩ | ⟨g', c', cur, h0, _, _, h2, _⟩
        · cases h0
        · cases h0; simpa using h2
      have hct : wr.cell? ⟨g, st.length, none⟩ = some (.int .i64 t) := by
        rw [hown.cellAt st.length (by simp)]
        simp
      obtain ⟨hco0, hfo⟩ := hT.out.both
      have hco : wr.cell? ⟨w.heap.size, k, none⟩ = some (.int .i64 0) := by
        rw [hco0]; simp [Nums, turnsK, hlt]
      clear hco0
      have hlo := hT.out.lt
      obtain ⟨xo, xk, xd, xa, xb, xc, xp, xn, xm⟩ := x
      have HX := hd hx
      have HT := hd hT
      have HO := hd hown
      have HST := hd hst
      have HSS := hd (stAt_succ hx)
      have h0 := hcx 0 _ rfl
      have h1 := hcx 1 _ rfl
      have h2 := hcx 2 _ rfl
      have h3 := hcx 3 _ rfl
      have h4 := hcx 4 _ rfl
      have h5 := hcx 5 _ rfl
      have h6 := hcx 6 _ rfl
      have h7 := hcx 7 _ rfl
      have h8 := hcx 8 _ rfl
      simp only [Nat.add_zero] at h0
      have hbt := HB.out k t (by rw [hst]; simp)
      obtain ⟨ht0, ht1⟩ := hbt
      have hml : xo = 3 → 0 ≤ xm ∧ xm ≤ 1000000 := HM.out _ (List.mem_of_getElem? hx)
      have hstl : st.length ≤ 100000 := by
        have := stAt_length xs k
        rw [hst] at this
        simp at this
        omega
      clear hcx hx hT hown hst hbn
      have hop : xo = 3 ∨ xo = 4 ∨ ((xo == 3) = false ∧ (xo == 4) = false) := by simp; omega
      rcases hop with rfl | rfl | ⟨hn3, hn4⟩
      · have hmm := hml rfl
        obtain ⟨hm0, hm1⟩ := hmm
        clear hml
        have hmn : 0 ≤ t * xm := Int.mul_nonneg ht0 hm0
        have hmx : t * xm ≤ 40000001 * 1000000 := Int.mul_le_mul ht1 hm1 hm0 (by omega)
        have hww : wrap64 (t * xm) = t * xm := by clear hmk h0 h1 h2 h3 h4 h5 h6 h7 h8 hfo hco hct; generalize t * xm = q at *; unfold wrap64; omega
        have HQ : Hd (min (t * xm) 40000001 = min (t * xm) 40000001) := hd rfl
        obtain ⟨i0, hi0, hz0, hz1, hz2⟩ := info_parts (show ((Try.prog).info? 3).map (fun i => (i.zero, i.size, i.bytes)) = some (some (.int .i64 0), 1, 8) by kernel_rfl)
        by_cases hle : 40000001 < t * xm
        · go_wp2_with (
            refine wpList_append_lies _ rfl _ _ 22 rfl (w.heap.size + 1) 3 i0 (.int .i64 0) 1 8 Try.underlying22 hi0 hz0 hz1 hz2 rfl (by decide) _ _ _ rfl ((HT.out.stored HST.out _).2.2.alloc _) ⟨wr.heap.size + 1, 0, none⟩ 1 1 [.int .i64 40000001] rfl rfl ?c1 ?c2 (by decide) ?c3 ?c4 ?c5 _ rfl ?_
            case c1 => exact World.news_of_block (Blk.new' _ _ #[.int .i64 40000001] _ (by simp))
            case c2 => intro u hu; simp at hu; subst hu; rfl
            case c3 => unfold maxLen; omega
            case c4 => omega
            case c5 => simp; omega
            intro g2 cap2 w2 ho2 hg2 ha2 hlt2
            have HT2 := hd (TuSt.push (q := 40000001) HT.out HST.out HSS.out rfl (by first | rfl | (show _ = min (t * xm) _; omega)) hg1 ho2 hg2)
            clear ho2 hg2 ha2)
          go_round
          case rel => exact ⟨k + 1, by go_num, by omega, HT2.out⟩
          case measure => simp [intOf]; omega
        · go_wp2_with (
            refine wpList_append_lies _ rfl _ _ 22 rfl (w.heap.size + 1) 3 i0 (.int .i64 0) 1 8 Try.underlying22 hi0 hz0 hz1 hz2 rfl (by decide) _ _ _ rfl ((HT.out.stored HST.out _).2.2.alloc _) ⟨wr.heap.size + 1, 0, none⟩ 1 1 [.int .i64 (t * xm)] rfl rfl ?c1 ?c2 (by decide) ?c3 ?c4 ?c5 _ rfl ?_
            case c1 => exact World.news_of_block (Blk.new' _ _ #[.int .i64 (t * xm)] _ (by simp))
            case c2 => intro u hu; simp at hu; subst hu; rfl
            case c3 => unfold maxLen; omega
            case c4 => omega
            case c5 => simp; omega
            intro g2 cap2 w2 ho2 hg2 ha2 hlt2
            have HT2 := hd (TuSt.push (q := (t * xm)) HT.out HST.out HSS.out rfl (by first | rfl | (show _ = min (t * xm) _; omega)) hg1 ho2 hg2)
            clear ho2 hg2 ha2)
          go_round
          case rel => exact ⟨k + 1, by go_num, by omega, HT2.out⟩
          case measure => simp [intOf]; omega
      · go_wp2_with fail
        go_round
        case rel => exact ⟨k + 1, by go_num, by omega, TuSt.pop HT.out HST.out HSS.out rfl⟩
        case measure => simp [intOf]; omega
      · go_wp2_with fail
        go_round
        case rel => exact ⟨k + 1, by go_num, by omega, TuSt.same HT.out HST.out HSS.out (by simpa using hn3) (by simpa using hn4)⟩
        case measure => simp [intOf]; omega
    · have hk2 : k = xs.length := by omega
      subst hk2
      have HE := hd hT.up
      have HO := hd hT.out
      clear hT hk hlt
      go_wp2_with fail
      go_ret
      exact ⟨_, rfl, HE.out, by rw [← turnsK_all]; exact HO.out⟩
end Go.Proofs.Ytedabpldigcffaa
