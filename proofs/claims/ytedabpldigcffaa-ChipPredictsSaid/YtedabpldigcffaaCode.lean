/- The stream's code: the coder is made. -/
import Derived.Test.YtedabpldigcffaaMach
import Derived.Test.YtedabpldigcffaaChipC
import Derived.Test.YtedabpldigcffaaOne
import Derived.Lib.MinMax
namespace Go.Proofs.Ytedabpldigcffaa
open Go.RowKit
set_option linter.unusedSimpArgs false
set_option linter.unusedVariables false
attribute [local irreducible] relAtS

/-- Code that was drawn: at most 50000 instructions in a row of the call's own. -/
def CodePost (base g n : Nat) (w : World) (e : Ending) (w' : World) : Prop :=
  ∃ v l, e = .returned v ∧ w'.ownsRow w.heap.size 64 9 v l.length (codeCells l) ∧ l.length ≤ 50000 ∧ Ext [g] w w' ∧ Stm w' base g n
/-- The coder's two limits are set; the first store is operation 13. -/
structure JK (gc : Nat) (cells : Int → Array Value) (x1 : Int) (W2 : World) (r : Nat → Bool) (w : World) : Prop where
  ext : Ext [gc] W2 w
  blk : ∃ x, Blk w gc 120 (cells x) ∧ (r 13 = false → x = x1)
theorem off_other {r : Nat → Bool} {i j : Nat} (h : i ≠ j) : off r i j = r j := by
  have : (j == i) = false := by simpa using fun e => h e.symm
  simp [off, this]
theorem JK.less {gc : Nat} {cells : Int → Array Value} {x1 : Int} {W2 w : World} {r : Nat → Bool} (h : JK gc cells x1 W2 r w) (i : Nat) (hi : i ≠ 13) : JK gc cells x1 W2 (off r i) w := by
  obtain ⟨x, h1, h2⟩ := h.blk
  exact ⟨h.ext, x, h1, by rw [off_other hi]; exact h2⟩

/-- The coder knows how many words are set. -/
theorem CdrAt.setS {w : World} {base bc g gc n c : Nat} {m0 m1 m2 m3 m4 s s' : Int} {v : Value} {l : List Ins} (h : CdrAt w base bc g gc n c ⟨m0, m1, m2, m3, m4, s⟩ v l) (hs : s' ≤ 16) :
    CdrAt (w.setCell ⟨gc, 7, none⟩ (.int .i64 s')) base bc g gc n c ⟨m0, m1, m2, m3, m4, s'⟩ v l :=
  ⟨h.stm.setAt (by have := h.gb; have := h.bb; omega) (by have := h.bas; have := h.bb; omega), h.blk.set_' 7 _ _ rfl, ownsRow_setCell_other h.own (own_blk_ne h.own h.blk (by decide)) _, h.room, h.gb, h.bb, h.bas, h.lan, h.que, hs⟩
/-- What the first instructions leave. -/
def CodeSt (base bc g gc n c : Nat) (m0 m1 m2 m3 m4 : Int) (w wx : World) : Prop := Upto bc [g] w wx ∧ ∃ s, Cdr wx base bc g gc n c ⟨m0, m1, m2, m3, m4, s⟩

set_option maxHeartbeats 4000000 in
set_option maxRecDepth 100000 in
theorem code_any (base g n : Nat) (m0 m1 m2 m3 m4 : Int) (many : Nat) (hmany : many ≤ 14) (w : World) (h : Stm w base g (n + 6000000)) :
    Calls Try.prog 48 #[.pointer (some ⟨g, 0, none⟩), .agg #[.int .i64 m0, .int .i64 m1, .int .i64 m2, .int .i64 m3, .int .i64 m4], .int .i64 many, .int .i64 3] w (CodePost base g n w) := by
  have HST := hd h
  have HG := hd h.lt
  clear h
  go_enter Try.func48, Try.ntmps48
  go_wp2_with fail
  have HM := hd ((Blk.new w 40 #[.int .i64 m0, .int .i64 m1, .int .i64 m2, .int .i64 m3, .int .i64 m4]).alloc (.cells #[.pointer (some ⟨g, 0, none⟩), .int .i64 m0, .int .i64 m1, .int .i64 m2, .int .i64 m3, .int .i64 m4, .slice none 0 0, .int .i64 0] 120))
  have HC := hd (Blk.new' (w.alloc (.cells #[.int .i64 m0, .int .i64 m1, .int .i64 m2, .int .i64 m3, .int .i64 m4] 40)) 120 #[.pointer (some ⟨g, 0, none⟩), .int .i64 m0, .int .i64 m1, .int .i64 m2, .int .i64 m3, .int .i64 m4, .slice none 0 0, .int .i64 0] (w.heap.size + 1) (by simp))
  refine wp_region_relS 14 (JK (w.heap.size + 1) (fun x => #[.pointer (some ⟨g, 0, none⟩), .int .i64 m0, .int .i64 m1, .int .i64 m2, .int .i64 m3, .int .i64 x, .slice none 0 0, .int .i64 0]) (max 1 (min m4 4)) ((w.alloc (.cells #[.int .i64 m0, .int .i64 m1, .int .i64 m2, .int .i64 m3, .int .i64 m4] 40)).alloc (.cells #[.pointer (some ⟨g, 0, none⟩), .int .i64 m0, .int .i64 m1, .int .i64 m2, .int .i64 m3, .int .i64 m4, .slice none 0 0, .int .i64 0] 120))) (Ext [w.heap.size + 1]) (kinds [(13, ⟨Unit, (), fun _ => undef, fun _ _ => True⟩)]) (by kernel_rfl) (by kernel_rfl) ?_ ?_ ?_ ?_
  · intro i r w hi _ hJ
    refine hJ.less i (fun e => ?_)
    subst e
    rcases hi with hi | ⟨oi, hoi, hg⟩
    · cases hi
    · cases hoi; exact hg rfl
  · exact Stays.cons (fun _ _ _ _ h => h) Stays.nil
  · exact ⟨(Ext.refl _ _).drew, m4, HC.out, fun h => by cases h⟩
  simp only [List.take_succ_cons, List.take_zero, List.drop_succ_cons, List.drop_zero]
  repeat
    refine relAt_detS rfl rfl ?_
    apply Exists.intro
    refine ⟨fun wr nr hg hJ => ?_, ?_⟩
    · have qm := (HM.out.ext hJ.ext (by simp)); have qmc := qm.cell; have qml := qm.lt; clear qm
      clear hJ
      (go_simp; try go_bits)
      first | rfl | exact ⟨rfl, rfl⟩
    simp only [Act.put, List.setIfInBounds_toArray, List.set_cons_succ, List.set_cons_zero]
  refine relAt_storeS rfl rfl ?_ ?_
  · intro wr nr hg hJ hf
    obtain ⟨x, hB, hx⟩ := hJ.blk
    refine ⟨wr.setCell ⟨w.heap.size + 1, 5, none⟩ (.int .i64 (max 1 (min m4 4))), ?_, ⟨hJ.ext.setCell (.inl (by simp)) _, _, hB.set_' 5 _ _ rfl, fun _ => rfl⟩, (Ext.refl _ _).setCell (.inl (by simp)) _⟩
    have qc := hB.cell
    have qf := hB.frozen
    have ql := hB.lt
    clear hg hf hB hJ
    go_simp
  simp only [Act.put, List.setIfInBounds_toArray, List.set_cons_succ, List.set_cons_zero]
  refine relAt_nilS (fun wy r hr hJ hF => ?_)
  obtain ⟨x, hB, hx⟩ := hJ.blk
  have hx1 := hx (by rw [hr 13 (by decide)]; rfl)
  subst hx1
  have qc := hB.cell
  have qf := hB.frozen
  have ql := hB.lt
  have HBY := hd hB
  have HEY := hd hJ.ext
  clear hJ hF hr hx hB
  have HBW : Hd (base ≤ w.heap.size) := hd (Nat.le_trans HST.out.base (Nat.le_of_lt HG.out))
  have HE2 : Hd (Ext [] w (wy.setCell ⟨w.heap.size + 1, 4, none⟩ (.int .i64 (max 1 (min m3 8))))) := hd (((((Ext.refl [] w).alloc _).alloc _).step HEY.out (fun i hi => .inr (by rw [List.mem_singleton.1 hi]; omega))).setCell (.inr (by simp)) _)
  have HCD : Hd (CdrAt (wy.setCell ⟨w.heap.size + 1, 4, none⟩ (.int .i64 (max 1 (min m3 8)))) base w.heap.size g (w.heap.size + 1) (n + 6000000) 100000000 ⟨m0, m1, m2, max 1 (min m3 8), max 1 (min m4 4), 0⟩ (.slice none 0 0) []) :=
    hd ⟨HST.out.ext HE2.out (by simp) (by simp), HBY.out.set_' 4 _ _ rfl, ⟨rfl, .inl ⟨rfl, rfl⟩⟩, by simp, HG.out, by omega, HBW.out, by simp only; omega, by simp only; omega, by simp only; omega⟩
  clear HBY HEY HM HC
  go_upto_if 32 with (go_at_call 9; refine (flip_any base g (n + 5900000) _ _ (HCD.out.stm.less (by omega)) (by omega)).mono ?_; rintro e w3 ⟨b3, rfl, hE3, hS3⟩)
  have HC3 := hd (HCD.out.draw hE3 hS3)
  have HE3 := hd (HE2.out.nil.trans hE3)
  have HB3 : Hd (w.heap.size + 1 < w3.heap.size) := hd (by have := HC3.out.blk.lt; omega)
  clear hE3 hS3
  go_cut [] (fun wx => CodeSt base w.heap.size g (w.heap.size + 1) (n + 14 * 375000) (99960000 + 14 * 2500) m0 m1 m2 (max 1 (min m3 8)) (max 1 (min m4 4)) w wx)
  case first =>
    cases b3
    · have qc := HC3.out.cells w3 (Ext.refl _ _)
      have qf := HC3.out.blk.frozen
      have ql := HC3.out.blk.lt
      simp only [cdrCells] at qc
      go_wp2_with fail
      have HC4 := hd (HC3.out.setS (s' := 16) (by omega))
      have HE4 : Hd (Ext [g] w (w3.setCell ⟨w.heap.size + 1, 7, none⟩ (.int .i64 16))) := hd (HE3.out.setCell (.inr (by simp)) _)
      clear qc qf ql
      refine (next_any base g (n + 5800000) _ _ (HC4.out.stm.less (by omega)) (by omega)).mono ?_
      rintro e w5 ⟨rn, rfl, _, hE5, hS5⟩
      have HC5 := hd (HC4.out.draw hE5 hS5)
      have HE5 := hd (HE4.out.trans hE5)
      clear hE5 hS5
      go_wp2_with fail
      refine (add_any base w.heap.size g (w.heap.size + 1) (n + 5800000) 99999999 ⟨m0, m1, m2, max 1 (min m3 8), max 1 (min m4 4), 16⟩ ⟨18, 1, 0, 0, 0, 0, 0, rn, 16⟩ _ HC5.out.cdr).mono ?_
      rintro e w6 ⟨rfl, hU6, hC6⟩
      have HC6 := hd hC6
      have HU6 := hd ((Upto.of_ext HE5.out (Nat.le_refl _) (fun x hx => .inl hx)).trans hU6)
      clear hU6 hC6
      go_wp2_with fail
      refine (add_any base w.heap.size g (w.heap.size + 1) (n + 5800000) 99999998 ⟨m0, m1, m2, max 1 (min m3 8), max 1 (min m4 4), 16⟩ ⟨19, 0, 0, 0, 0, 0, 0, 0, 0⟩ _ HC6.out).mono ?_
      rintro e w7 ⟨rfl, hU7, hC7⟩
      have HC7 := hd hC7
      have HU7 := hd (HU6.out.trans hU7)
      clear hU7 hC7
      go_wp2_with fail
      go_meet
      exact ⟨HU7.out, 16, HC7.out.less (by omega) (by omega)⟩
    · go_wp2_with fail
      go_meet
      exact ⟨Upto.of_ext HE3.out (Nat.le_refl _) (fun x hx => .inl hx), 0, HC3.out.cdr.less (by omega) (by omega)⟩
  case rest =>
    obtain ⟨hU, s, hCR⟩ := hcut
    have HU := hd hU
    have HCR := hd hCR
    clear hU hCR HCD HC3
    go_wp2_with fail
    go_loopw [45] (fun i wr => ∃ k : Nat, i = .int .i64 k ∧ k ≤ many ∧ CodeSt base w.heap.size g (w.heap.size + 1) (n + (14 - k) * 375000) (99960000 + (14 - k) * 2500) m0 m1 m2 (max 1 (min m3 8)) (max 1 (min m4 4)) w wr) (fun i _ => (many - intOf i).toNat)
    case atStart => exact ⟨0, rfl, by omega, HU.out, s, HCR.out⟩
    case round =>
      obtain ⟨k, rfl, hk, hL⟩ := hrel
      have HL := hd hL
      clear hL
      by_cases hlt : k < many
      · go_wp2_with fail
        obtain ⟨hU, s', hC⟩ := HL.out
        refine (one_any 3 (by omega) base w.heap.size g (w.heap.size + 1) (n + (14 - (k + 1)) * 375000) (99960000 + (14 - (k + 1)) * 2500) _ wr (hC.less (by show _ + 375000 ≤ _; omega) (by show _ + 2500 ≤ _; omega))).mono ?_
        rintro e w7 ⟨rfl, hU7, hC7⟩
        have HN : Hd (CodeSt base w.heap.size g (w.heap.size + 1) (n + (14 - (k + 1)) * 375000) (99960000 + (14 - (k + 1)) * 2500) m0 m1 m2 (max 1 (min m3 8)) (max 1 (min m4 4)) w w7) := hd ⟨hU.trans hU7, s', hC7⟩
        clear hU hC hU7 hC7
        go_wp2_with fail
        go_roundw
        case rel => exact ⟨k + 1, by go_num, by omega, HN.out⟩
        case measure => simp [intOf]; omega
      · obtain ⟨hU, s', v, l, hC⟩ := HL.out
        have HC := hd hC
        have HU2 := hd hU
        have qc := hC.cells wr (Ext.refl _ _)
        have ql := hC.blk.lt
        simp only [cdrCells] at qc
        clear hU hC
        go_wp2_with fail
        go_ret
        exact ⟨v, l, rfl, HC.out.own, by have := HC.out.room; omega, HU2.out.ext, HC.out.stm.less (by omega)⟩
end Go.Proofs.Ytedabpldigcffaa
