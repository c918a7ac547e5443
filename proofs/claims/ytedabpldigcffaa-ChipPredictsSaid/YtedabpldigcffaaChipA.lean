/- A chip before its first instruction: copies of code and of words, the ends of loops. -/
import Derived.Test.YtedabpldigcffaaCheckF
import Derived.Test.YtedabpldigcffaaRefA
import Derived.Test.YtedabpldigcffaaSlices
import Derived.Lib.LazyBuf
namespace Go.Proofs.Ytedabpldigcffaa
open Go.RowKit
set_option linter.unusedSimpArgs false
set_option linter.unusedVariables false

/-- Ints lie in a block from an offset on. -/
def NumsAt (w : World) (b o : Nat) (xs : List Int) : Prop := ∀ k x, xs[k]? = some x → w.cell? ⟨b, o + k, none⟩ = some (.int .i64 x)
theorem NumsAt.ext {S : List Nat} {w w' : World} {b o : Nat} {xs : List Int} (h : NumsAt w b o xs) (hE : Ext S w w') (hS : b ∉ S) : NumsAt w' b o xs := fun k x hx => hE.held (h k x hx) hS
theorem NumsAt.blk {w : World} {b : Nat} {t : TypeId} {xs : List Int} (h : Blk w b t (Nums xs)) : NumsAt w b 0 xs := fun k x hx => by
  rw [h.cell]; simp [Nums, hx]
/-- The cells of a row that the call owns. -/
theorem row_cells {w : World} {base g n cap size : Nat} {e : TypeId} {xs : List Value} (h : w.ownsRow base e size (.slice (some ⟨g, 0, none⟩) n cap) n xs) (i : Nat) (v : Value) (hi : xs[i]? = some v) : w.cell? ⟨g, i, none⟩ = some v := by
  obtain ⟨hl, hx⟩ := h
  rcases hx with ⟨h0, _⟩ | ⟨g', cap', cur, h0, _, hg, _, _, hc, ht⟩
  · cases h0
  · cases h0
    rw [cell_of_row w g i cur e (0, 0) hg]
    have hlt : i < n * size := by rw [← hl]; exact (List.getElem?_eq_some_iff.1 hi).1
    rw [← ht, List.getElem?_take, if_pos hlt] at hi
    simpa using hi
theorem row_empty (w : World) (e : TypeId) (size : Nat) : (w.alloc (.cells #[] e)).ownsRow w.heap.size e size (.slice (some ⟨w.heap.size, 0, none⟩) 0 0) 0 [] :=
  ⟨by simp, .inr ⟨_, 0, #[], rfl, Nat.le_refl _, Blk.new w e #[], Nat.le_refl _, by simp, by simp, by simp⟩⟩

theorem codeCells_one (l : List Ins) : ∀ u ∈ codeCells l, u.oneCell' = true := by
  intro u hu
  obtain ⟨x, _, hx⟩ := List.mem_flatMap.1 hu
  simp [Ins.cells] at hx
  rcases hx with rfl | rfl | rfl | rfl | rfl | rfl | rfl | rfl | rfl <;> rfl

set_option maxHeartbeats 1000000 in
set_option maxRecDepth 100000 in
theorem cloneIns_any (b o cap : Nat) (xs : List Ins) (w : World) (h : RdC w (some ⟨b, o, none⟩) xs) (h0 : 0 < xs.length) (hl : xs.length ≤ 100000) :
    Calls Try.prog 50 #[.slice (some ⟨b, o, none⟩) xs.length cap] w fun e w' => ∃ g c', e = .returned (.slice (some ⟨g, 0, none⟩) xs.length c') ∧ Ext [] w w' ∧ RdC w' (some ⟨g, 0, none⟩) xs ∧ w.heap.size ≤ g ∧ g < w'.heap.size := by
  obtain ⟨i0, hi0, hz0, hz1, hz2⟩ := info_parts Try.info64
  have HH := hd h
  clear h
  have hcells : ∀ w', Ext [] w w' → ∀ j u, (codeCells xs)[j]? = some u → w'.cell? ((⟨b, o, none⟩ : Addr).add j) = some u := by
    intro w' hE j u hu
    rw [Addr.add_mk]
    rcases HH.out with hx | ⟨b', o', he, hc⟩
    · rw [hx] at h0; cases h0
    · cases he
      have hj : j < xs.length * 9 := by rw [← codeCells_length]; exact (List.getElem?_eq_some_iff.1 hu).1
      have hk : j / 9 < xs.length := by omega
      obtain ⟨x, hx⟩ : ∃ x, xs[j / 9]? = some x := ⟨_, List.getElem?_eq_getElem hk⟩
      have hr : j % 9 < x.cells.length := by show j % 9 < 9; omega
      have hget := codeCells_get xs (j / 9) x hx (j % 9) _ (List.getElem?_eq_getElem hr)
      rw [show j / 9 * 9 + j % 9 = j by omega, hu] at hget
      have := hc (j / 9) x hx (j % 9) _ (List.getElem?_eq_getElem hr)
      rw [show o + j / 9 * 9 + j % 9 = o + j by omega, ← hget] at this
      exact hE.held this (by simp)
  have HC := hd hcells
  clear hcells
  have heq : ∀ W : World, (binOp .eql 41 (.slice (some ⟨b, o, none⟩) xs.length cap) (.slice none 0 0)).run Try.prog W = .ok (.bool false) W := fun W => Go.Lib.run_eql_slice_nil (P := Try.prog) (w := W) (h := Try.underlying41) ..
  go_enter Try.func50, Try.ntmps50
  go_wp2_with (
    refine wpList_append_lies _ rfl _ _ 41 rfl w.heap.size 64 i0 _ 9 72 Try.underlying41 hi0 hz0 hz1 hz2 rfl (by decide) _ _ _ rfl (row_empty w 64 9) ⟨b, o, none⟩ xs.length cap (codeCells xs) rfl (codeCells_length xs) ?c1 ?c2 h0 ?c3 ?c4 ?c5 _ rfl ?_
    case c1 => exact HC.out _ ((Ext.refl _ _).alloc _)
    case c2 => exact codeCells_one xs
    case c3 => unfold maxLen; omega
    case c4 => omega
    case c5 => simp
    intro g cap w2 ho hg ha hlt
    have HX := hd (And.intro ho (And.intro hg (And.intro ha hlt)))
    clear ho hg ha hlt)
  go_ret
  obtain ⟨ho, hg, ha, hlt⟩ := HX.out
  rw [Nat.zero_add, List.nil_append] at ho
  refine ⟨g, cap, rfl, ((Ext.refl [] w).alloc _).grown hg (fun k hk => .inr ?_), ?_, ?_, hlt⟩
  · cases hk; exact Nat.le_refl _
  · refine .inr ⟨g, 0, rfl, fun k x hx j v hv => ?_⟩
    refine row_cells ho _ v ?_
    rw [Nat.zero_add]
    exact codeCells_get xs k x hx j v hv
  · rcases ha with ha | ha
    · cases ha; exact Nat.le_refl _
    · rw [ha]; simp

theorem NumsAt.news {w : World} {b o : Nat} {xs : List Int} (h : NumsAt w b o xs) : ∀ j u, (xs.map (Value.int .i64))[j]? = some u → w.cell? ((⟨b, o, none⟩ : Addr).add j) = some u := by
  intro j u hu
  rw [Addr.add_mk]
  rw [List.getElem?_map] at hu
  cases hx : xs[j]? with
  | none => rw [hx] at hu; cases hu
  | some x => rw [hx] at hu; cases hu; exact h j x hx
/-- A copy of ints. -/
def CopyPost (xs : List Int) (w : World) (e : Ending) (w' : World) : Prop :=
  ∃ g c', e = .returned (.slice (some ⟨g, 0, none⟩) xs.length c') ∧ Ext [] w w' ∧ w'.ownsRow w.heap.size 3 1 (.slice (some ⟨g, 0, none⟩) xs.length c') xs.length (xs.map (Value.int .i64))
set_option maxHeartbeats 1000000 in
set_option maxRecDepth 100000 in
theorem cloneInt_any (b o cap : Nat) (xs : List Int) (w : World) (h : NumsAt w b o xs) (h0 : 0 < xs.length) (hl : xs.length ≤ 10000000) :
    Calls Try.prog 30 #[.slice (some ⟨b, o, none⟩) xs.length cap] w (CopyPost xs w) := by
  obtain ⟨i0, hi0, hz0, hz1, hz2⟩ := info_parts (show ((Try.prog).info? 3).map (fun i => (i.zero, i.size, i.bytes)) = some (some (.int .i64 0), 1, 8) by kernel_rfl)
  have HH := hd h
  clear h
  have heq : ∀ W : World, (binOp .eql 22 (.slice (some ⟨b, o, none⟩) xs.length cap) (.slice none 0 0)).run Try.prog W = .ok (.bool false) W := fun W => Go.Lib.run_eql_slice_nil (P := Try.prog) (w := W) (h := Try.underlying22) ..
  go_enter Try.func30, Try.ntmps30
  go_wp2_with (
    refine wpList_append_lies _ rfl _ _ 22 rfl w.heap.size 3 i0 _ 1 8 Try.underlying22 hi0 hz0 hz1 hz2 rfl (by decide) _ _ _ rfl (row_empty w 3 1) ⟨b, o, none⟩ xs.length cap (xs.map (Value.int .i64)) rfl (by simp) ?c1 ?c2 h0 ?c3 ?c4 ?c5 _ rfl ?_
    case c1 => exact (HH.out.ext ((Ext.refl [] _).alloc _) (by simp)).news
    case c2 => intro u hu; obtain ⟨x, _, rfl⟩ := List.mem_map.1 hu; rfl
    case c3 => unfold maxLen; omega
    case c4 => omega
    case c5 => simp
    intro g cap w2 ho hg ha hlt
    have HX := hd (And.intro ho (And.intro hg (And.intro ha hlt)))
    clear ho hg ha hlt)
  go_ret
  obtain ⟨ho, hg, ha, hlt⟩ := HX.out
  rw [Nat.zero_add, List.nil_append] at ho
  refine ⟨g, cap, rfl, ((Ext.refl [] w).alloc _).grown hg (fun k hk => .inr ?_), ho⟩
  cases hk; exact Nat.le_refl _

/-- Code without loops. -/
def flat (xs : List Ins) : Prop := ∀ x ∈ xs, x.op ≠ 3 ∧ x.op ≠ 4
set_option maxHeartbeats 1000000 in
set_option maxRecDepth 100000 in
/-- The ends of loops of code that has none. -/
theorem loopEnds_flat (A : Option Addr) (cap : Nat) (xs : List Ins) (w : World) (h : RdC w A xs) (hl : xs.length ≤ 100000) (hf : flat xs) :
    Calls Try.prog 83 #[.slice A xs.length cap] w fun e w' => ∃ b : Nat, e = .returned (.slice (some ⟨b, 0, none⟩) xs.length xs.length) ∧ Ext [] w w' := by
  have HH := hd h
  have HF := hd hf
  clear h hf
  have hmk : ∀ W : World, (Instr.makeSlice 22 (.int .i64 xs.length) (.int .i64 xs.length)).run Try.prog W = .ok (.slice (some ⟨W.heap.size, 0, none⟩) xs.length xs.length) (W.alloc (.cells (Nums (turnsK xs 0)) 3)) := by
    intro W
    rw [run_make_row' 22 3 (.int .i64 0) 8 Try.underlying22 (by kernel_rfl) rfl .i64 .i64 xs.length (by omega) (by omega) W, turnsK_zero]
    congr 3
    apply Array.ext
    · simp [Nums, madeCells]
    · intro i h1 h2
      simp [Nums, madeCells, Nat.mod_one]
  generalize hcs : Nums (turnsK xs 0) = cs at *
  go_enter Try.func83, Try.ntmps83
  go_wp2_with fail
  go_loopw [4, 12] (fun v i wr => ∃ k : Nat, i = .int .i64 k ∧ v = .slice none 0 0 ∧ k ≤ xs.length ∧ Ext [] w wr) (fun _ i _ => (xs.length - intOf i).toNat)
  case atStart => exact ⟨0, rfl, rfl, by omega, (Ext.refl _ _).alloc _⟩
  case round =>
    obtain ⟨k, rfl, rfl, hk, hE⟩ := hrel
    have HE := hd hE
    by_cases hlt : k < xs.length
    · obtain ⟨x, hx⟩ : ∃ x, xs[k]? = some x := ⟨_, List.getElem?_eq_getElem hlt⟩
      obtain ⟨b, o, rfl, hb, hcx⟩ := ((HH.out.ext hE (by simp))).at hx
      have h0 := hcx 0 _ rfl
      have h1 := hcx 1 _ rfl
      have h2 := hcx 2 _ rfl
      have h3 := hcx 3 _ rfl
      have h4 := hcx 4 _ rfl
      have h5 := hcx 5 _ rfl
      have h6 := hcx 6 _ rfl
      have h7 := hcx 7 _ rfl
      have h8 := hcx 8 _ rfl
      simp only [Nat.add_zero] at h0
      have hno := HF.out x (List.mem_of_getElem? hx)
      have hn3 : (x.op == 3) = false := by simpa using hno.1
      have hn4 : (x.op == 4) = false := by simpa using hno.2
      clear hcx hx hE hno
      go_wp2_with fail
      go_round
      case rel => exact ⟨k + 1, by go_num, rfl, by omega, HE.out.alloc _⟩
      case measure => simp [intOf]; omega
    · clear hE
      go_wp2_with fail
      go_ret
      exact ⟨_, rfl, HE.out⟩
end Go.Proofs.Ytedabpldigcffaa
