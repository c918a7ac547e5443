/- Where loops end: the walk. -/
import Derived.Test.YtedabpldigcffaaPreD
import Derived.Test.YtedabpldigcffaaChipA
namespace Go.Proofs.Ytedabpldigcffaa
open Go.RowKit
set_option linter.unusedSimpArgs false
set_option linter.unusedVariables false

def natV (i : Nat) : Value := .int .i64 (i : Int)
/-- The ends so far, as a list. -/
def endsL (xs : List Ins) (k : Nat) : List Int := (List.range xs.length).map fun i => ((eSt xs k).2 i : Int)
theorem endsL_set {xs : List Ins} {k j : Nat} {l : List Nat} {x : Ins} (hx : xs[k]? = some x) (h4 : x.op = 4) (ho : (eSt xs k).1 = j :: l) : (Nums (endsL xs k)).setIfInBounds j (.int .i64 k) = Nums (endsL xs (k + 1)) := by
  unfold endsL Nums
  rw [eSt_end hx h4, ho]
  simp only [setN, List.headD_cons]
  apply Array.ext
  · simp
  · intro i h1 h2
    by_cases hk : j = i
    · subst hk; simp
    · have h3 : ¬ i = j := by omega
      simp [hk, h3]
theorem endsL_zero (xs : List Ins) : Nums (endsL xs 0) = Nums (turnsK xs 0) := by
  rw [turnsK_zero]
  unfold endsL
  congr 1
  apply List.ext_getElem
  · simp
  · intro i h1 h2; simp [eSt]
/-- Where loopEnds stands. -/
structure LeSt (w : World) (B : Nat) (xs : List Ins) (k : Nat) (v : Value) (wr : World) : Prop where
  up : Ext [] w wr
  out : Blk wr B 3 (Nums (endsL xs k))
  own : wr.ownsRow (B + 1) 3 1 v (eSt xs k).1.length (((eSt xs k).1.reverse).map natV)
section
variable {w : World} {xs : List Ins} {k : Nat} {x : Ins} {wr w2 : World} {v : Value} {o : Obj}
theorem LeSt.start (w : World) (xs : List Ins) : LeSt w w.heap.size xs 0 (.slice none 0 0) (w.alloc (.cells (Nums (turnsK xs 0)) 3)) where
  up := (Ext.refl _ _).alloc _
  out := by rw [endsL_zero]; exact Blk.new _ _ _
  own := ⟨rfl, .inl ⟨rfl, rfl⟩⟩
theorem LeSt.alloc (h : LeSt w w.heap.size xs k v wr) (o : Obj) : LeSt w w.heap.size xs k v (wr.alloc o) := ⟨h.up.alloc _, h.out.alloc _, h.own.alloc _⟩
theorem LeSt.same (h : LeSt w w.heap.size xs k v wr) (hx : xs[k]? = some x) (h3 : x.op ≠ 3) (h4 : x.op ≠ 4) : LeSt w w.heap.size xs (k + 1) v wr := by
  have he := eSt_plain hx h3 h4
  refine ⟨h.up, ?_, ?_⟩
  · have := h.out; unfold endsL at *; rw [he]; exact this
  · rw [he]; exact h.own
theorem LeSt.pop {g j n cap : Nat} {l : List Nat} (h : LeSt w w.heap.size xs k (.slice (some ⟨g, 0, none⟩) (l.length + 1) cap) wr) (hx : xs[k]? = some x) (h4 : x.op = 4) (ho : (eSt xs k).1 = j :: l) :
    LeSt w w.heap.size xs (k + 1) (.slice (some ⟨g, 0, none⟩) l.length cap) (wr.setCell ⟨w.heap.size, j, none⟩ (.int .i64 k)) := by
  have hown := h.own
  rw [ho] at hown
  have h1 : (eSt xs (k + 1)).1 = l := by rw [eSt_end hx h4, ho]; rfl
  refine ⟨h.up.setCell (.inr (Nat.le_refl _)) _, h.out.set_' j _ _ (endsL_set hx h4 ho), ?_⟩
  rw [h1]
  refine ownsRow_pop (last := [natV j]) (by simp) ?_
  have h2 := ownsRow_setCell_below (a := ⟨w.heap.size, j, none⟩) hown (by simp) (.int .i64 k)
  simpa using h2
theorem LeSt.push {o2 : Obj} {g2 cap2 : Nat} {row : Option Nat} (h : LeSt w w.heap.size xs k v wr) (hx : xs[k]? = some x) (h3 : x.op = 3)
    (ho : w2.ownsRow (w.heap.size + 1) 3 1 (.slice (some ⟨g2, 0, none⟩) ((eSt xs k).1.length + 1) cap2) ((eSt xs k).1.length + 1) ((((eSt xs k).1.reverse).map natV) ++ [.int .i64 k]))
    (hg : (wr.alloc o2).grownBy w2 row) (hrow : ∀ g, row = some g → w.heap.size + 1 ≤ g) :
    LeSt w w.heap.size xs (k + 1) (.slice (some ⟨g2, 0, none⟩) ((eSt xs k).1.length + 1) cap2) w2 := by
  have he := eSt_loop hx h3
  refine ⟨(h.up.alloc o2).grown hg (fun j hj => .inr (by have := hrow j hj; omega)), ?_, ?_⟩
  · have := (h.out.alloc o2).grown hg (fun hj => by have := hrow _ hj; omega)
    unfold endsL at *
    rw [he]
    exact this
  · rw [he]
    simpa [natV] using ho
end

set_option maxHeartbeats 2000000 in
set_option maxRecDepth 100000 in
theorem loopEnds_any (m : Mc) (A : Option Addr) (cap : Nat) (xs : List Ins) (w : World) (h : RdC w A xs) (hl : xs.length ≤ 100000) (hc : codeE m 0 xs = 0) :
    Calls Try.prog 83 #[.slice A xs.length cap] w fun e w' => ∃ b : Nat, e = .returned (.slice (some ⟨b, 0, none⟩) xs.length xs.length) ∧ Ext [] w w' ∧ Blk w' b 3 (Nums (endsL xs xs.length)) ∧ w.heap.size ≤ b := by
  have HH := hd h
  have HC := hd hc
  clear h hc
  obtain ⟨i0, hi0, hz0, hz1, hz2⟩ := info_parts (show ((Try.prog).info? 3).map (fun i => (i.zero, i.size, i.bytes)) = some (some (.int .i64 0), 1, 8) by kernel_rfl)
  have hmk : ∀ W : World, (Instr.makeSlice 22 (.int .i64 xs.length) (.int .i64 xs.length)).run Try.prog W = .ok (.slice (some ⟨W.heap.size, 0, none⟩) xs.length xs.length) (W.alloc (.cells (Nums (turnsK xs 0)) 3)) := by
    intro W
    rw [run_make_row' 22 3 (.int .i64 0) 8 Try.underlying22 (by kernel_rfl) rfl .i64 .i64 xs.length (by omega) (by omega) W, turnsK_zero]
    congr 3
    apply Array.ext
    · simp [Nums, madeCells]
    · intro i h1 h2
      simp [Nums, madeCells, Nat.mod_one]
  have HS0 := hd (LeSt.start w xs)
  generalize hcs : Nums (turnsK xs 0) = cs at *
  go_enter Try.func83, Try.ntmps83
  go_wp2_with fail
  go_loopw [4, 12] (fun v i wr => ∃ (k : Nat) (u : Value), i = .int .i64 k ∧ u = v ∧ k ≤ xs.length ∧ Hd (LeSt w w.heap.size xs k u wr)) (fun _ i _ => (xs.length - intOf i).toNat)
  case atStart => exact ⟨0, _, rfl, rfl, by omega, HS0⟩
  case round =>
    obtain ⟨k, u, rfl, rfl, hk, HS⟩ := hrel
    by_cases hlt : k < xs.length
    · obtain ⟨x, hx⟩ : ∃ x, xs[k]? = some x := ⟨_, List.getElem?_eq_getElem hlt⟩
      obtain ⟨b, o, rfl, hb, hcx⟩ := ((HH.out.ext HS.out.up (by simp))).at hx
      have h0 := hcx 0 _ rfl
      have h1 := hcx 1 _ rfl
      have h2 := hcx 2 _ rfl
      have h3 := hcx 3 _ rfl
      have h4 := hcx 4 _ rfl
      have h5 := hcx 5 _ rfl
      have h6 := hcx 6 _ rfl
      have h7 := hcx 7 _ rfl
      have h8 := hcx 8 _ rfl
      simp only [Nat.add_zero] at h0
      have HX := hd hx
      clear hcx hx
      have hop : x.op = 3 ∨ x.op = 4 ∨ ((x.op == 3) = false ∧ (x.op == 4) = false) := by simp; omega
      rcases hop with h | h | ⟨hn3, hn4⟩
      · have HOP := hd h
        have hlo := HS.out.out.lt
        have hsl : (eSt xs k).1.length ≤ k := eSt_length k
        have HOB : Hd (∀ q, u.ownBlock = some q → w.heap.size + 1 ≤ q) := hd (fun q hq => own_base HS.out.own q hq)
        rw [h] at h0
        clear h
        go_wp2_with (
          refine wpList_append_lies _ rfl _ _ 22 rfl (w.heap.size + 1) 3 i0 (.int .i64 0) 1 8 Try.underlying22 hi0 hz0 hz1 hz2 rfl (by decide) _ _ _ rfl ((HS.out.own.alloc _).alloc _) ⟨wr.heap.size + 1, 0, none⟩ 1 1 [.int .i64 k] rfl rfl ?c1 ?c2 (by decide) ?c3 ?c4 ?c5 _ rfl ?_
          case c1 => exact World.news_of_block (Blk.new' _ _ #[.int .i64 k] _ (by simp))
          case c2 => intro u hu; simp at hu; subst hu; rfl
          case c3 => unfold maxLen; omega
          case c4 => omega
          case c5 => simp; omega
          intro g2 cap2 w2 ho2 hg2 ha2 hlt2
          have HN : Hd (LeSt w w.heap.size xs (k + 1) (.slice (some ⟨g2, 0, none⟩) ((eSt xs k).1.length + 1) cap2) w2) := hd (LeSt.push (HS.out.alloc _) HX.out HOP.out ho2 hg2 HOB.out)
          clear ho2 hg2 ha2)
        go_round
        case rel => exact ⟨k + 1, _, by go_num, rfl, by omega, HN⟩
        case measure => simp [intOf]; omega
      · obtain ⟨j, l, hj⟩ := eSt_open HC.out HX.out h
        have hjk : j < k := eSt_lt k j (by rw [hj]; simp)
        have hsl : l.length + 1 ≤ k := by have := eSt_length (xs := xs) k; rw [hj] at this; simpa using this
        have hown := HS.out.own
        rw [hj] at hown
        obtain ⟨g, cap', rfl, hg1, hg2⟩ := hown.form (by simp)
        have hcap : l.length + 1 ≤ cap' := by
          rcases hown.2 with ⟨h0, _⟩ | ⟨g', c', cur, h0, _, _, h2, _⟩
          · cases h0
          · cases h0; simpa using h2
        have hct : wr.cell? ⟨g, l.length, none⟩ = some (.int .i64 j) := by
          rw [hown.cellAt l.length (by simp)]
          simp [natV]
        have hoc := HS.out.out.cell j
        have hof := HS.out.out.frozen j
        have hol := HS.out.out.lt
        have hoc2 : wr.cell? ⟨w.heap.size, j, none⟩ = some (.int .i64 ((eSt xs k).2 j)) := by
          rw [hoc]; simp [Nums, endsL, show j < xs.length by omega]
        have HN := hd (fun o => (HS.out.pop (n := 0) HX.out h hj).alloc o)
        rw [h] at h0
        have HJ := hd hj
        clear hoc hown hj h
        go_wp2_with fail
        go_round
        case rel => exact ⟨k + 1, _, by go_num, rfl, by omega, hd (HN.out _)⟩
        case measure => simp [intOf]; omega
      · have HN := hd (fun o => (HS.out.alloc o).same HX.out (by simpa using hn3) (by simpa using hn4))
        go_wp2_with fail
        go_round
        case rel => exact ⟨k + 1, _, by go_num, rfl, by omega, hd (HN.out _)⟩
        case measure => simp [intOf]; omega
    · have hke : k = xs.length := by omega
      subst hke
      go_wp2_with fail
      go_ret
      exact ⟨_, rfl, HS.out.up, HS.out.out, Nat.le_refl _⟩
end Go.Proofs.Ytedabpldigcffaa
