/- Blocks that are code whole: append, copy, clear and stores keep them so. Condition: the slices lie within the block. -/
import Derived.Test.YtedabpldigcffaaCodeB
import Derived.Test.YtedabpldigcffaaOne
import Derived.Lib.AppendZerosOnto
import Derived.Lib.SliceRun
import Derived.Lib.Overlaps
import Derived.Shelf.Spec.SlicesInsert
import Derived.Lib.MinMax
namespace Go.Proofs.Ytedabpldigcffaa
open Go.RowKit
set_option linter.unusedSimpArgs false
set_option linter.unusedVariables false

theorem codeCells_rep (k : Nat) : codeCells (List.replicate k zI) = List.replicate (k * 9) (.int .i64 0) := by
  induction k with
  | zero => rfl
  | succ k ih =>
    rw [List.replicate_succ]
    show zI.cells ++ codeCells (List.replicate k zI) = _
    rw [ih, show (k + 1) * 9 = 9 + k * 9 by omega, ← List.replicate_append_replicate]
    rfl
theorem zeroCells_code (k : Nat) : Builtin.zeroCells (Value.agg #[.int .i64 0, .int .i64 0, .int .i64 0, .int .i64 0, .int .i64 0, .int .i64 0, .int .i64 0, .int .i64 0, .int .i64 0]).cells k = (codeCells (List.replicate k zI)).toArray := by
  rw [codeCells_rep]
  apply Array.ext
  · simp [Builtin.zeroCells, Value.cells]
  · intro i h1 h2
    simp [Builtin.zeroCells, Value.cells]
    have h9 : i % 9 < 9 := Nat.mod_lt _ (by omega)
    generalize i % 9 = j at h9
    match j, h9 with
    | 0, _ | 1, _ | 2, _ | 3, _ | 4, _ | 5, _ | 6, _ | 7, _ | 8, _ => rfl

theorem CodeB.ext {S : List Nat} {w w' : World} {b n : Nat} (h : CodeB w b n) (hE : Ext S w w') (hS : b ∉ S) : CodeB w' b n := by
  obtain ⟨xs, hx, hB⟩ := h
  exact ⟨xs, hx, hB.ext hE hS⟩
theorem CodeB.frozen {w : World} {b n : Nat} (h : CodeB w b n) (i : Nat) : w.frozen? ⟨b, i, none⟩ = false := by
  obtain ⟨xs, _, hB⟩ := h; exact hB.frozen i
/-- A block that is code reads as code. -/
theorem CodeB.reads {w : World} {b n : Nat} (h : CodeB w b n) (m : Nat) (hm : m ≤ n) : ∃ xs : List Ins, xs.length = m ∧ RdC w (some ⟨b, 0, none⟩) xs := by
  obtain ⟨xs, hx, hB⟩ := h
  refine ⟨xs.take m, by simp; omega, .inr ⟨b, 0, rfl, fun k x hxk j v hv => ?_⟩⟩
  rw [List.getElem?_take] at hxk
  split at hxk
  · rw [Nat.zero_add, hB.cell]
    have := codeCells_get xs k x hxk j v hv
    simpa using this
  · cases hxk
/-- Some instructions of a block that is code, from one on. -/
theorem CodeB.cells {w : World} {b n : Nat} (h : CodeB w b n) (d m : Nat) (hm : d + m ≤ n) : ∃ ys : List Ins, ys.length = m ∧ ∀ j v, (codeCells ys)[j]? = some v → w.cell? ⟨b, d * 9 + j, none⟩ = some v := by
  obtain ⟨xs, hx, hB⟩ := h
  refine ⟨(xs.drop d).take m, by simp; omega, fun j v hv => ?_⟩
  rw [hB.cell]
  rw [← codeCells_take, List.getElem?_take] at hv
  split at hv
  · rw [← codeCells_drop, List.getElem?_drop] at hv
    simpa using hv
  · cases hv
theorem RdC.codeCells {w : World} {b o : Nat} {xs : List Ins} (h : RdC w (some ⟨b, o, none⟩) xs) : ∀ j u, (Go.Proofs.Ytedabpldigcffaa.codeCells xs)[j]? = some u → w.cell? ⟨b, o + j, none⟩ = some u := by
  intro j u hu
  have hj : j < xs.length * 9 := by rw [← codeCells_length]; exact (List.getElem?_eq_some_iff.1 hu).1
  rcases h with hx | ⟨b', o', he, hc⟩
  · rw [hx] at hj; simp at hj
  · cases he
    have hk : j / 9 < xs.length := by omega
    obtain ⟨x, hx⟩ : ∃ x, xs[j / 9]? = some x := ⟨_, List.getElem?_eq_getElem hk⟩
    have hr : j % 9 < x.cells.length := by show j % 9 < 9; omega
    have hget := codeCells_get xs (j / 9) x hx (j % 9) _ (List.getElem?_eq_getElem hr)
    rw [show j / 9 * 9 + j % 9 = j by omega, hu] at hget
    have := hc (j / 9) x hx (j % 9) _ (List.getElem?_eq_getElem hr)
    rw [show o + j / 9 * 9 + j % 9 = o + j by omega, ← hget] at this
    exact this

theorem CodeB.set {w : World} {b n : Nat} (h : CodeB w b n) (k f : Nat) (y : Int) (hk : k < n) (hf : f < 9) : CodeB (w.setCell ⟨b, k * 9 + f, none⟩ (.int .i64 y)) b n := by
  obtain ⟨xs, hx, hB⟩ := h
  refine ⟨xs.set k ((xs[k]'(by omega)).set f y), by simpa using hx, ?_⟩
  rw [codeCells_set xs k f y (by omega) hf]
  have := hB.set_ (k * 9 + f) (.int .i64 y)
  simpa using this

/-- append where there is room. -/
theorem append_room_code {w : World} {b c n m cap c2 b2 d : Nat} (h : CodeB w b c) (ys : List Ins) (hys : ys.length = m) (hsrc : ∀ j v, (codeCells ys)[j]? = some v → w.cell? ⟨b2, d + j, none⟩ = some v) (hroom : n + m ≤ cap) (hfit : n + m ≤ c) :
    ∃ w', (∀ ty, (Builtin.append_ #[41, 41] ty #[.slice (some ⟨b, 0, none⟩) n cap, .slice (some ⟨b2, d, none⟩) m c2]).run Try.prog w = .ok (.slice (some ⟨b, 0, none⟩) (n + m) cap) w') ∧ CodeB w' b c ∧ Ext [b] w w' := by
  obtain ⟨i0, hi0, hz0, hz1, hz2⟩ := info_parts Try.info64
  obtain ⟨xs, hx, hB⟩ := h
  refine ⟨_, fun ty => run_append_room (P := Try.prog) w 41 ty 64 i0 Try.underlying41 hi0 b n cap (codeCells xs).toArray hB ⟨b2, d, none⟩ m c2 (codeCells ys) (by rw [hz1, codeCells_length, hys]) (fun j u hu => by rw [Addr.add_mk]; exact hsrc j u hu) (codeCells_one' ys) hroom (by rw [hz1, codeCells_length]; simp [codeCells_length]; omega), ?_, ?_⟩
  · refine ⟨xs.take n ++ ys ++ xs.drop (n + m), by simp; omega, ?_⟩
    unfold Blk
    rw [setRow_heap w b _ _ _ _ hB]
    refine congrArg (fun z => some (Obj.cells z 64 (0, 0))) ?_
    rw [codeCells_append, codeCells_append, ← codeCells_take, ← codeCells_drop, hz1, codeCells_length, hys, Nat.add_mul]
  · exact ⟨rfl, rfl, rfl, by simp [World.setRow], fun i _ hi => setRow_other w b i _ (by simpa using hi)⟩

/-- append where there is none. -/
theorem append_grow_code {w : World} {n m cap c2 b2 d : Nat} (base : Option Addr) (xs ys : List Ins) (hxs : xs.length = n) (hys : ys.length = m) (hb : (base = none ∧ n = 0 ∧ cap = 0) ∨ ∃ b o, base = some ⟨b, o, none⟩ ∧ ∀ j v, (codeCells xs)[j]? = some v → w.cell? ⟨b, o + j, none⟩ = some v)
    (hsrc : ∀ j v, (codeCells ys)[j]? = some v → w.cell? ⟨b2, d + j, none⟩ = some v) (hm : 0 < m) (hg : cap < n + m) (hl : n + m ≤ 1000000) :
    ∃ cap' w', (∀ ty, (Builtin.append_ #[41, 41] ty #[.slice base n cap, .slice (some ⟨b2, d, none⟩) m c2]).run Try.prog w = .ok (.slice (some ⟨w.heap.size, 0, none⟩) (n + m) cap') w') ∧ n + m ≤ cap' ∧ cap' ≤ 9223372036854775807 ∧ CodeB w' w.heap.size cap' ∧ Ext [] w w' := by
  obtain ⟨i0, hi0, hz0, hz1, hz2⟩ := info_parts Try.info64
  have hge := grownCap_ge w (n + m) cap 64
  have hle := grownCap_le_maxLen w (n + m) cap 64 (by unfold maxLen; omega)
  have h63 : grownCap w (n + m) cap 64 ≤ 9223372036854775807 := by unfold maxLen at hle; omega
  rcases hb with ⟨rfl, rfl, rfl⟩ | ⟨b, o, rfl, hold⟩
  · have hx0 : xs = [] := List.eq_nil_of_length_eq_zero hxs
    subst hx0
    rw [Nat.zero_add] at *
    refine ⟨grownCap w m 0 64, _, fun ty => run_append_nil (P := Try.prog) w 41 ty 64 i0 _ Try.underlying41 hi0 hz0 ⟨b2, d, none⟩ m c2 (codeCells ys) (by rw [hz1, codeCells_length, hys]) (fun j u hu => by rw [Addr.add_mk]; exact hsrc j u hu) hm (by omega) (by rw [hz2]; omega), hge, h63, ?_, ((Ext.refl _ _).drew).alloc _⟩
    refine ⟨ys ++ List.replicate (grownCap w m 0 64 - m) zI, by simp; omega, ?_⟩
    rw [zeroCells_code, codeCells_append]
    have := Blk.new w.drew 64 (codeCells ys ++ codeCells (List.replicate (grownCap w m 0 64 - m) zI)).toArray
    simpa using this
  · refine ⟨grownCap w (n + m) cap 64, _, fun ty => run_append_grow (P := Try.prog) w 41 ty 64 i0 _ Try.underlying41 hi0 hz0 ⟨b, o, none⟩ n cap (codeCells xs) (by rw [hz1, codeCells_length, hxs]) (fun j u hu => by rw [Addr.add_mk]; exact hold j u hu) ⟨b2, d, none⟩ m c2 (codeCells ys) (by rw [hz1, codeCells_length, hys]) (fun j u hu => by rw [Addr.add_mk]; exact hsrc j u hu) hg (by omega) (by rw [hz2]; exact growslice_fits hg (by omega)), hge, h63, ?_, ((Ext.refl _ _).drew).alloc _⟩
    refine ⟨xs ++ ys ++ List.replicate (grownCap w (n + m) cap 64 - (n + m)) zI, by simp; omega, ?_⟩
    rw [zeroCells_code, codeCells_append, codeCells_append]
    have := Blk.new w.drew 64 (codeCells xs ++ codeCells ys ++ codeCells (List.replicate (grownCap w (n + m) cap 64 - (n + m)) zI)).toArray
    simpa using this

/-- append of a make, where there is no room. -/
theorem append_make_code {w : World} {n m cap b o : Nat} (xs : List Ins) (hxs : xs.length = n) (hold : ∀ j v, (codeCells xs)[j]? = some v → w.cell? ⟨b, o + j, none⟩ = some v) (hm : 0 < m) (hg : cap < n + m) (hl : n + m ≤ 1000000) :
    ∃ cap' w', (∀ ty, (Builtin.append_ #[41, 3] ty #[.slice (some ⟨b, o, none⟩) n cap, .int .i64 m]).run Try.prog w = .ok (.slice (some ⟨w.heap.size, 0, none⟩) (n + m) cap') w') ∧ n + m ≤ cap' ∧ cap' ≤ 9223372036854775807 ∧ CodeB w' w.heap.size cap' ∧ Ext [] w w' := by
  obtain ⟨i0, hi0, hz0, hz1, hz2⟩ := info_parts Try.info64
  have hge := grownCap_ge w (n + m) cap 64
  have hle := grownCap_le_maxLen w (n + m) cap 64 (by unfold maxLen; omega)
  have h63 : grownCap w (n + m) cap 64 ≤ 9223372036854775807 := by unfold maxLen at hle; omega
  have hf : (Builtin.firstCells i0.size n (.slice (some ⟨b, o, none⟩) n cap)).run Try.prog w.drew = .ok (codeCells xs).toArray w.drew := by
    rw [hz1]
    exact run_firstCells_some w.drew 9 n ⟨b, o, none⟩ n cap (codeCells xs) (by rw [codeCells_length, hxs]) (fun j v hj => by rw [Addr.add_mk]; exact hold j v hj)
  refine ⟨grownCap w (n + m) cap 64, _, fun ty => Lib.run_append_grow_zeros (P := Try.prog) w 41 3 ty 64 i0 _ .i64 .i64 Try.underlying41 Try.underlying3 hi0 hz0 (some ⟨b, o, none⟩) n cap (codeCells xs) hf m hm (by rw [hz1]; decide) hg (by omega) (by rw [hz2]; omega) (by rw [hz2]; exact growslice_fits hg (by omega)), hge, h63, ?_, ((Ext.refl _ _).drew).alloc _⟩
  refine ⟨xs ++ List.replicate m zI ++ List.replicate (grownCap w (n + m) cap 64 - (n + m)) zI, by simp; omega, ?_⟩
  rw [zeroCells_code, zeroCells_code, codeCells_append, codeCells_append]
  have := Blk.new w.drew 64 (codeCells xs ++ codeCells (List.replicate m zI) ++ codeCells (List.replicate (grownCap w (n + m) cap 64 - (n + m)) zI)).toArray
  simpa using this

/-- clear of some instructions. -/
theorem clear_code {w : World} {b c n m cap : Nat} (h : CodeB w b c) (hm : 0 < m) (hfit : n + m ≤ c) :
    ∃ w', (∀ ty, (Builtin.clear_ #[41] ty #[.slice (some ⟨b, n * 9, none⟩) m cap]).run Try.prog w = .ok (.tuple #[]) w') ∧ CodeB w' b c ∧ Ext [b] w w' := by
  obtain ⟨i0, hi0, hz0, hz1, hz2⟩ := info_parts Try.info64
  obtain ⟨xs, hx, hB⟩ := h
  have hst := run_storeCells_at Try.prog b (n * 9) 64 (codeCells (List.replicate m zI)) 0 (codeCells xs).toArray w hB (by simp [codeCells_length]; omega) (codeCells_one' _)
  simp only [Nat.add_zero] at hst
  obtain ⟨k, rfl⟩ : ∃ k, m = k + 1 := ⟨m - 1, by omega⟩
  have hz : (Builtin.zeroCells (Value.agg #[.int .i64 0, .int .i64 0, .int .i64 0, .int .i64 0, .int .i64 0, .int .i64 0, .int .i64 0, .int .i64 0, .int .i64 0]).cells (k + 1)).toList = codeCells (List.replicate (k + 1) zI) := by rw [zeroCells_code]
  refine ⟨w.setRow b ((codeCells xs).toArray.toList.take (n * 9) ++ codeCells (List.replicate (k + 1) zI) ++ (codeCells xs).toArray.toList.drop (n * 9 + (codeCells (List.replicate (k + 1) zI)).length)).toArray, fun ty => ?_, ?_, ?_⟩
  · simp [Builtin.clear_, run_underlying Try.underlying41, zeroValue, typeInfo, hi0, hz0, hz, hst]
  · refine ⟨xs.take n ++ List.replicate (k + 1) zI ++ xs.drop (n + (k + 1)), by simp; omega, ?_⟩
    unfold Blk
    rw [setRow_heap w b _ _ _ _ hB]
    refine congrArg (fun z => some (Obj.cells z 64 (0, 0))) ?_
    rw [codeCells_append, codeCells_append, ← codeCells_take, ← codeCells_drop, codeCells_length, List.length_replicate, Nat.add_mul n]
  · exact ⟨rfl, rfl, rfl, by simp [World.setRow], fun i _ hi => setRow_other w b i _ (by simpa using hi)⟩
end Go.Proofs.Ytedabpldigcffaa
namespace Go.Proofs.Ytedabpldigcffaa
open Go.RowKit
set_option linter.unusedSimpArgs false
set_option linter.unusedVariables false

/-- A slice of n instructions, its block code whole; the block is B or a later one. -/
def Cd (w : World) (B : Nat) (v : Value) (n : Nat) : Prop :=
  (v = .slice none 0 0 ∧ n = 0) ∨ ∃ b cap, v = .slice (some ⟨b, 0, none⟩) n cap ∧ n ≤ cap ∧ cap ≤ 9223372036854775807 ∧ CodeB w b cap ∧ B ≤ b

/-- An append whose run is known, as one step of a region that draws. -/
theorem step_append_run {P : Program} {ops : Array Oper} {o : Oper} {a : Act} {w : World} {K : Act → World → Prop} {Q : Exit → Act → World → Prop} {E : Prop}
    (hg : o.guard = none) (d x : Operand) (dT sT : TypeId) (hop : o.op = Op.call { callee := Callee.builtin Builtin.append, args := #[d, x], argTypes := #[dT, sT] })
    (v u : Value) (hd : a.eval d = v) (hx : a.eval x = u) {v' : Value} {w' : World} (hr : (Builtin.append_ #[dT, sT] o.type #[v, u]).run P w = .ok v' w') (hK : K (a.put o.dst v') w') :
    if Region.wanted o (yielded ops a.tmps) = true then Oper.wp P o a w K Q else E := by
  have hw : Region.wanted o (yielded ops a.tmps) = true := by simp [Region.wanted, hg]
  rw [if_pos hw]
  unfold Oper.wp
  simp [execOp, hop, resolve, invoke, builtin, hd, hx, hr, Result.andThen]
  exact hK

def CloneP (w : World) (n : Nat) (e : Ending) (w' : World) : Prop := ∃ v, e = .returned v ∧ Cd w' w.heap.size v n ∧ Ext [] w w'

set_option maxHeartbeats 1000000 in
set_option maxRecDepth 100000 in
theorem clone_code (A : Option Addr) (cap : Nat) (xs : List Ins) (w : World) (h : RdC w A xs) (hl : xs.length ≤ 1000000) :
    Calls Try.prog 50 #[.slice A xs.length cap] w (CloneP w xs.length) := by
  cases A with
  | none =>
    have heq : ∀ W : World, (binOp .eql 41 (.slice none xs.length cap) (.slice none 0 0)).run Try.prog W = .ok (.bool true) W := fun W => Go.Lib.run_eql_slice_nil (P := Try.prog) (w := W) (h := Try.underlying41) ..
    have h0 : xs.length = 0 := by
      rcases h with h | ⟨b, o, he, _⟩
      · rw [h]; rfl
      · cases he
    have H0 := hd h0
    clear h h0
    go_enter Try.func50, Try.ntmps50
    go_wp2_with fail
    go_ret
    exact ⟨_, rfl, .inl ⟨rfl, H0.out⟩, Ext.refl _ _⟩
  | some a =>
    have heq : ∀ W : World, (binOp .eql 41 (.slice (some a) xs.length cap) (.slice none 0 0)).run Try.prog W = .ok (.bool false) W := fun W => Go.Lib.run_eql_slice_nil (P := Try.prog) (w := W) (h := Try.underlying41) ..
    have hnew : CodeB (w.alloc (.cells #[] 64)) w.heap.size 0 := ⟨[], rfl, Blk.new _ _ _⟩
    have hrun : ∃ cap' b w2, (∀ ty, (Builtin.append_ #[41, 41] ty #[.slice (some ⟨w.heap.size, 0, none⟩) 0 0, .slice (some a) xs.length cap]).run Try.prog (w.alloc (.cells #[] 64)) = .ok (.slice (some ⟨b, 0, none⟩) xs.length cap') w2) ∧ xs.length ≤ cap' ∧ cap' ≤ 9223372036854775807 ∧ CodeB w2 b cap' ∧ w.heap.size ≤ b ∧ Ext [] w w2 := by
      rcases h with h | ⟨b, o, he, hc⟩
      · subst h
        obtain ⟨i0, hi0, hz0, hz1, hz2⟩ := info_parts Try.info64
        obtain ⟨xs0, hx0, hB⟩ := hnew
        have hx0' : xs0 = [] := List.eq_nil_of_length_eq_zero hx0
        subst hx0'
        refine ⟨0, _, _, fun ty => run_append_room (P := Try.prog) _ 41 ty 64 i0 Try.underlying41 hi0 w.heap.size 0 0 _ hB a 0 cap [] (by simp) (by simp) (by simp) (by omega) (by simp), by simp, by omega, ⟨[], rfl, ?_⟩, Nat.le_refl _, ?_⟩
        · unfold Blk
          rw [setRow_heap _ _ _ _ _ _ hB]
          simp [Go.Proofs.Ytedabpldigcffaa.codeCells]
        · exact (((Ext.refl [] w).alloc _).step (b := w.alloc (.cells #[] 64)) (T := [w.heap.size]) ⟨rfl, rfl, rfl, by simp [World.setRow], fun i _ hi => setRow_other _ _ i _ (by simpa using hi)⟩ (fun x hx => .inr (by rw [List.mem_singleton.1 hx]; exact Nat.le_refl _)))
      · cases he
        have hcc := RdC.codeCells (.inr ⟨b, o, rfl, hc⟩ : RdC w (some ⟨b, o, none⟩) xs)
        by_cases h0 : xs.length = 0
        · obtain ⟨w2, hr, hC, hE⟩ := append_room_code (n := 0) (m := 0) (cap := 0) (c2 := cap) (b2 := b) (d := o) hnew [] rfl (by simp [Go.Proofs.Ytedabpldigcffaa.codeCells]) (by omega) (by omega)
          rw [h0]
          exact ⟨0, _, w2, hr, by omega, by omega, hC, Nat.le_refl _, ((Ext.refl [] w).alloc _).step hE (fun x hx => .inr (by rw [List.mem_singleton.1 hx]; exact Nat.le_refl _))⟩
        · obtain ⟨cap', w2, hr, h1, h2, hC, hE⟩ := append_grow_code (w := w.alloc (.cells #[] 64)) (n := 0) (m := xs.length) (cap := 0) (c2 := cap) (b2 := b) (d := o) (some ⟨w.heap.size, 0, none⟩) [] xs rfl rfl (.inr ⟨_, _, rfl, by simp [Go.Proofs.Ytedabpldigcffaa.codeCells]⟩)
            (fun j v hv => ((Ext.refl [] w).alloc _).held (hcc j v hv) (by simp)) (by omega) (by omega) (by omega)
          rw [Nat.zero_add] at hr h1
          exact ⟨cap', _, w2, hr, h1, h2, hC, by simp, ((Ext.refl [] w).alloc _).trans hE⟩
    obtain ⟨cap', b, w2, hr, h1, h2, hC, hb, hE⟩ := hrun
    have HX := hd (And.intro h1 (And.intro h2 (And.intro hC (And.intro hb hE))))
    clear h hnew h1 h2 hC hb hE
    go_enter Try.func50, Try.ntmps50
    go_wp2_with (at_builtin; refine Lib.wpList_append_run _ rfl _ _ _ _ rfl _ _ rfl rfl _ _ (hr _) ?_)
    go_ret
    obtain ⟨h1, h2, hC, hb, hE⟩ := HX.out
    exact ⟨_, rfl, .inr ⟨_, _, rfl, h1, h2, hC, hb⟩, hE⟩

/-- The slice, its block code still. -/
def DelP (b cap n : Nat) (w : World) (e : Ending) (w' : World) : Prop := e = .returned (.slice (some ⟨b, 0, none⟩) n cap) ∧ CodeB w' b cap ∧ Ext [b] w w'

set_option maxHeartbeats 1000000 in
set_option maxRecDepth 100000 in
theorem delete_code (b cap k m : Nat) (w : World) (h : CodeB w b cap) (hn : k + 1 + m ≤ cap) (hcap : cap ≤ 9223372036854775807) :
    Calls Try.prog 51 #[.slice (some ⟨b, 0, none⟩) (k + 1 + m) cap, .int .i64 k, .int .i64 ((k : Int) + 1)] w (DelP b cap (k + m) w) := by
  obtain ⟨d, hdd, w2, hr, hC2, hE2⟩ : ∃ d, (if cap = k + 1 then some (⟨b, 0, none⟩ : Addr) else some ⟨b, (k + 1) * 9, none⟩) = some ⟨b, d, none⟩ ∧ ∃ w2, (∀ ty, (Builtin.append_ #[41, 41] ty #[.slice (some ⟨b, 0, none⟩) k cap, .slice (some ⟨b, d, none⟩) m (cap - (k + 1))]).run Try.prog w.drew = .ok (.slice (some ⟨b, 0, none⟩) (k + m) cap) w2) ∧ CodeB w2 b cap ∧ Ext [b] w.drew w2 := by
    have hD : CodeB w.drew b cap := h
    by_cases hc : cap = k + 1
    · have hm0 : m = 0 := by omega
      subst hm0
      obtain ⟨w2, hw2⟩ := append_room_code (n := k) (m := 0) (cap := cap) (c2 := cap - (k + 1)) (b2 := b) (d := 0) hD [] rfl (by simp [Go.Proofs.Ytedabpldigcffaa.codeCells]) (by omega) (by omega)
      exact ⟨0, by simp [hc], w2, hw2⟩
    · obtain ⟨ys, hys, hcs⟩ := hD.cells (k + 1) m (by omega)
      obtain ⟨w2, hw2⟩ := append_room_code (n := k) (m := m) (cap := cap) (c2 := cap - (k + 1)) (b2 := b) (d := (k + 1) * 9) hD ys hys hcs (by omega) (by omega)
      exact ⟨(k + 1) * 9, by simp [hc], w2, hw2⟩
  obtain ⟨w3, hcl, hC3, hE3⟩ := clear_code (n := k + m) (m := 1) (cap := cap - (k + m)) hC2 (by omega) (by omega)
  have HC := hd hC3
  have HE : Hd (Ext [b] w w3) := hd (((Ext.refl [b] w).drew.trans hE2).trans hE3)
  have hne : ¬ cap = k + m := by omega
  have hl1 : k + 1 + m - (k + m) = 1 := by omega
  have hkc : k ≤ cap := by omega
  have hk1 : k + 1 ≤ cap := by omega
  have hkm : k + m ≤ k + 1 + m := by omega
  have hi1 : (0 : Int) ≤ (k : Int) + 1 := by omega
  have hi2 : (k : Int) + 1 ≤ (k : Int) + 1 + (m : Int) := by omega
  clear h hC2 hE2 hC3 hE3
  go_enter Try.func51, Try.ntmps51
  go_wp2_with fail
  go_region_law (refine step_append_run rfl (.tmp 22) (.tmp 25) _ _ rfl _ _ (by simp [Act.eval, Act.put]) (by simp [Act.eval, Act.put]) (hr _) ?_)
  go_wp2
  go_ret
  exact ⟨rfl, HC.out, HE.out⟩
def InsP (b n : Nat) (w : World) (e : Ending) (w' : World) : Prop := ∃ b' cap', e = .returned (.slice (some ⟨b', 0, none⟩) n cap') ∧ n ≤ cap' ∧ cap' ≤ 9223372036854775807 ∧ CodeB w' b' cap' ∧ (b' = b ∨ w.heap.size ≤ b') ∧ Ext [b] w w'

theorem Blk.shape {w : World} {b : Nat} {t : TypeId} {cs : Array Value} (h : Blk w b t cs) : w.shape? b = some (t, cs.size) := by
  unfold Blk at h; simp [World.shape?, h]
set_option maxHeartbeats 1000000 in
set_option maxRecDepth 100000 in
theorem insert_room (b cap k m vb vc : Nat) (x : Ins) (w : World) (h : CodeB w b cap) (hv : Blk w vb 64 (codeCells [x]).toArray) (hvb : vb ≠ b) (hn : k + 1 + m + 1 ≤ cap) (hcap : cap ≤ 9223372036854775807) :
    Calls Try.prog 52 #[.slice (some ⟨b, 0, none⟩) (k + 1 + m) cap, .int .i64 k, .slice (some ⟨vb, 0, none⟩) 1 vc] w (InsP b (k + 1 + m + 1) w) := by
  obtain ⟨i0, hi0, hz0, hz1, hz2⟩ := info_parts Try.info64
  have hc1 : ¬ cap = k := by omega
  have hc2 : ¬ cap = k + 1 := by omega
  have hov : ∀ lb cb, (callFunc 74 #[.slice (some ⟨vb, 0, none⟩) 1 vc, .slice (some ⟨b, (k + 1) * 9, none⟩) lb cb]).run Try.prog w = .ok (.value (.bool false)) w := fun lb cb => by
    obtain ⟨xs, hxs, hB⟩ := h
    rw [run_callFunc_extern Try.func74 (by kernel_rfl) (by kernel_rfl) (by kernel_rfl) (e := Extern.SlicesOverlaps.overlaps #[41, 41] #[4]) (by kernel_rfl),
      Lib.run_overlaps_apart w 41 4 64 Try.underlying41 9 (fun w => by simp [Go.sizeOf, typeInfo, hi0, hz1]) ⟨vb, 0, none⟩ ⟨b, (k + 1) * 9, none⟩ 1 vc lb cb hvb _ _ _ _ hv.shape hB.shape (by simp [codeCells_length]; omega) (hv.frozen 0) (hv.frozen _)]
    rfl
  obtain ⟨ys, hys, hcs⟩ := CodeB.cells (w := w.drew) h k (m + 1) (by omega)
  obtain ⟨w2, hcp1, hC2, hE2⟩ := copy_code (w := w.drew) (c1 := cap - (k + 1)) (c2 := cap - k) (o := k + 1) (k := m + 1) (b2 := b) (d := k * 9) h ys hys hcs 3 (k + 1 + m - k) (k + 1 + m + 1 - k) (by show min _ _ = _; omega) (by omega)
  obtain ⟨w3, hcp2, hC3, hE3⟩ := copy_code (w := w2) (c1 := cap - k) (c2 := vc) (o := k) (k := 1) (b2 := vb) (d := 0) hC2 [x] rfl (fun j v hj => by rw [Nat.zero_add, (hv.drew.ext hE2 (by simpa using hvb)).cell]; simpa using hj) 3 (k + 1 + m + 1 - k) 1 (by show min _ _ = _; omega) (by omega)
  have HC := hd hC3
  have HE : Hd (Ext [b] w w3) := hd (((Ext.refl [b] w).drew.trans hE2).trans hE3)
  clear h hv hC2 hE2 hC3 hE3 hcs
  have hi1 : (0 : Int) ≤ (k : Int) + 1 := by omega
  have hi2 : (k : Int) + 1 ≤ (k : Int) + 1 + (m : Int) + 1 := by omega
  have hi3 : (k : Int) ≤ (k : Int) + 1 + (m : Int) + 1 := by omega
  have hk3 : k ≤ k + 1 + m + 1 := by omega
  have hk4 : k + 1 ≤ k + 1 + m + 1 := by omega
  have hw1 : IntKind.i64.wrap ((k : Int) + 1) = (k : Int) + 1 := by rw [IntKind.wrap_i64]; omega
  have htn : ((k : Int) + 1).toNat = k + 1 := by omega
  go_enter Try.func52, Try.ntmps52
  go_wp2_with (simp only [hov])
  go_region_law (refine step_copy_runI rfl (.tmp 73) (.tmp 76) _ _ rfl _ _ (by simp [Act.eval, Act.put]) (by simp [Act.eval, Act.put]) hcp1 ?_)
  go_wp2_with (refine wpList_copy_runI _ rfl (.tmp 80) (.tmp 81) _ _ rfl _ _ rfl rfl hcp2 ?_)
  go_ret
  exact ⟨b, cap, rfl, hn, hcap, HC.out, .inl rfl, HE.out⟩

set_option maxHeartbeats 1000000 in
set_option maxRecDepth 100000 in
theorem insert_grow (b k m vb vc : Nat) (x : Ins) (w : World) (h : CodeB w b (k + 1 + m)) (hv : Blk w vb 64 (codeCells [x]).toArray) (hvb : vb ≠ b) (hcap : k + 1 + m ≤ 900000) :
    Calls Try.prog 52 #[.slice (some ⟨b, 0, none⟩) (k + 1 + m) (k + 1 + m), .int .i64 k, .slice (some ⟨vb, 0, none⟩) 1 vc] w (InsP b (k + 1 + m + 1) w) := by
  have hbl := h.lt
  have hvl := hv.lt
  obtain ⟨ys0, hys0, hcs0⟩ := CodeB.cells h 0 k (by omega)
  obtain ⟨cap', w2, hrz, hcap1, hcap2, hC2, hE2⟩ := append_make_code (cap := k + 1 + m) (b := b) (o := 0) ys0 hys0 (fun j v hj => by simpa using hcs0 j v hj) (m := m + 2) (by omega) (by omega) (by omega)
  rw [show ((m + 2 : Nat) : Int) = (k : Int) + 1 + (m : Int) + 1 - (k : Int) by omega] at hrz
  obtain ⟨w3, hcpA, hC3, hE3⟩ := copy_code (w := w2) (c1 := cap' - k) (c2 := vc) (o := k) (k := 1) (b2 := vb) (d := 0) hC2 [x] rfl (fun j v hj => by rw [Nat.zero_add, (hv.ext hE2 (by simp)).cell]; simpa using hj) 3 (m + 2) 1 (by show min _ _ = _; omega) (by omega)
  obtain ⟨ys, hys, hcs⟩ := CodeB.cells h k (m + 1) (by omega)
  have hE23 : Ext [w.heap.size] w w3 := (hE2.nil).trans hE3
  obtain ⟨w4, hcpB, hC4, hE4⟩ := copy_code (w := w3.drew) (c1 := cap' - (k + 1)) (c2 := k + 1 + m - k) (o := k + 1) (k := m + 1) (b2 := b) (d := k * 9) hC3 ys hys (fun j v hj => (hE23.drew).held (hcs j v hj) (by simp; omega)) 3 (k + (m + 2) - (k + 1)) (k + 1 + m - k) (by show min _ _ = _; omega) (by omega)
  have HC := hd hC4
  have HE : Hd (Ext [b] w w4) := hd ((hE23.drew.trans hE4).mono (fun i hi => .inr (by rw [List.mem_singleton.1 hi]; exact Nat.le_refl _)))
  have HCAP := hd hcap1
  clear h hv hC2 hE2 hC3 hE3 hcs hcs0 hE23 hC4 hE4
  have hc0 : ¬ k + 1 + m = k := by omega
  have hc1 : ¬ cap' = k := by omega
  have hc2 : ¬ cap' = k + 1 := by omega
  have hc3 : ¬ k + 1 + m + 1 ≤ k + 1 + m := by omega
  have hi1 : (0 : Int) ≤ (k : Int) + 1 := by omega
  have hi2 : (k : Int) + 1 ≤ (k : Int) + ((m : Int) + 2) := by omega
  have hi3 : (k : Int) ≤ (k : Int) + 1 + (m : Int) := by omega
  have hk3 : k ≤ k + 1 + m := by omega
  have hk4 : k + 1 ≤ k + (m + 2) := by omega
  have hw1 : IntKind.i64.wrap ((k : Int) + 1) = (k : Int) + 1 := by rw [IntKind.wrap_i64]; omega
  have htn : ((k : Int) + 1).toNat = k + 1 := by omega
  go_enter Try.func52, Try.ntmps52
  go_wp2_with (at_builtin; refine Lib.wpList_append_run _ rfl _ _ _ _ rfl _ _ rfl rfl _ _ (hrz _) ?_)
  go_wp2_with (refine wpList_copy_runI _ rfl (.tmp 43) (.tmp 44) _ _ rfl _ _ rfl rfl hcpA ?_)
  go_region_law (refine step_copy_runI rfl (.tmp 50) (.tmp 53) _ _ rfl _ _ (by simp [Act.eval, Act.put]) (by simp [Act.eval, Act.put]) hcpB ?_)
  go_wp2
  go_ret
  exact ⟨w.heap.size, cap', congrArg (fun n => Ending.returned (Value.slice (some ⟨w.heap.size, 0, none⟩) n cap')) (show k + (m + 2) = k + 1 + m + 1 by omega), by omega, hcap2, HC.out, .inr (Nat.le_refl _), HE.out⟩
end Go.Proofs.Ytedabpldigcffaa
namespace Go.Proofs.Ytedabpldigcffaa
open Go.RowKit
set_option linter.unusedSimpArgs false
set_option linter.unusedVariables false

/-- Some code, at most one instruction longer. -/
def SpoilP (base g n len : Nat) (w : World) (e : Ending) (w' : World) : Prop :=
  ∃ v k, e = .returned v ∧ Cd w' w.heap.size v k ∧ k ≤ len + 1 ∧ Ext [g] w w' ∧ Stm w' base g n

/-- An instruction of a block that is code. -/
theorem CodeB.at {w : World} {b n : Nat} (h : CodeB w b n) (k : Nat) (hk : k < n) : ∃ y : Ins, ∀ f v, y.cells[f]? = some v → w.cell? ⟨b, k * 9 + f, none⟩ = some v := by
  obtain ⟨xs, hx, hB⟩ := h
  refine ⟨xs[k]'(by omega), fun f v hv => ?_⟩
  rw [hB.cell]
  have := codeCells_get xs k _ (List.getElem?_eq_getElem (by omega)) f v hv
  simpa using this

set_option maxHeartbeats 4000000 in
set_option maxRecDepth 100000 in
theorem spoiled_empty (base g n : Nat) (A : Option Addr) (cap : Nat) (w : World) (h : RdC w A []) (hS : Stm w base g (n + 10)) :
    Calls Try.prog 19 #[.pointer (some ⟨g, 0, none⟩), .slice A 0 cap] w (SpoilP base g n 0 w) := by
  have HS := hd hS
  clear hS
  go_enter Try.func19, Try.ntmps19
  go_wp2_with fail
  refine (clone_code A cap [] w h (by simp)).mono ?_
  rintro e w1 ⟨v, rfl, hC, hE⟩
  have HS1 := hd (HS.out.ext hE (by simp) (by simp))
  have HE1 := hd hE
  have hgw : g < w1.heap.size := HS1.out.lt
  have hgg : g < w.heap.size := HS.out.lt
  have HBW : Hd (base ≤ w.heap.size) := hd (Nat.le_trans HS.out.base (Nat.le_of_lt hgg))
  rcases hC with ⟨rfl, _⟩ | ⟨b, cap1, rfl, hn1, hcap1, hC, hb1⟩
  · go_wp2_with fail
    refine (range_any base g n _ _ _ (HS1.out.less (by omega)) (by omega) (by omega)).mono ?_
    rintro e w2 ⟨r, rfl, _, hE2, hS2⟩
    obtain ⟨cap', w3, hr, h1, h2, hC3, hE3⟩ := append_grow_code (w := w2.alloc (.cells (codeCells [⟨r, 0, 0, 0, 0, 0, 0, 0, 0⟩]).toArray 64)) (n := 0) (m := 1) (cap := 0) (c2 := 1) (b2 := w2.heap.size) (d := 0) none [] [⟨r, 0, 0, 0, 0, 0, 0, 0, 0⟩] rfl rfl (.inl ⟨rfl, rfl, rfl⟩)
      (fun j v hj => by rw [Nat.zero_add, (Blk.new _ _ _).cell]; simpa using hj) (by omega) (by omega) (by omega)
    have HX := hd (And.intro h1 (And.intro h2 hC3))
    rw [show (w2.alloc (.cells (codeCells [⟨r, 0, 0, 0, 0, 0, 0, 0, 0⟩]).toArray 64)).heap.size = w2.heap.size + 1 by simp] at HX
    have HE : Hd (Ext [g] w w3) := hd ((((HE1.out.nil).trans hE2).alloc _).trans hE3.nil)
    have HST : Hd (Stm w3 base g n) := hd ((hS2.alloc _).ext hE3 (by simp) (by simp))
    have hsz : w.heap.size ≤ w2.heap.size := Nat.le_trans HE1.out.size hE2.size
    clear h1 h2 hC3 hE3 hE2 hS2
    go_wp2_with (at_builtin; refine Lib.wpList_append_run _ rfl _ _ _ _ rfl _ _ rfl rfl _ _ (hr _) ?_)
    go_ret
    obtain ⟨h1, h2, hC3⟩ := HX.out
    exact ⟨_, 1, rfl, .inr ⟨_, _, rfl, by omega, h2, hC3, by omega⟩, by omega, HE.out, HST.out⟩
  · have hbl := hC.lt
    go_wp2_with fail
    refine (range_any base g n _ _ _ (HS1.out.less (by omega)) (by omega) (by omega)).mono ?_
    rintro e w2 ⟨r, rfl, _, hE2, hS2⟩
    have hsz : w.heap.size ≤ w2.heap.size := Nat.le_trans HE1.out.size hE2.size
    have hC2 := (hC.ext hE2 (by simp; omega)).ext (w' := w2.alloc (.cells (codeCells [⟨r, 0, 0, 0, 0, 0, 0, 0, 0⟩]).toArray 64)) ((Ext.refl [] _).alloc _) (by simp)
    have hrun : ∃ b' cap' w3, (∀ ty, (Builtin.append_ #[41, 41] ty #[.slice (some ⟨b, 0, none⟩) 0 cap1, .slice (some ⟨w2.heap.size, 0, none⟩) 1 1]).run Try.prog (w2.alloc (.cells (codeCells [⟨r, 0, 0, 0, 0, 0, 0, 0, 0⟩]).toArray 64)) = .ok (.slice (some ⟨b', 0, none⟩) 1 cap') w3) ∧ 1 ≤ cap' ∧ cap' ≤ 9223372036854775807 ∧ CodeB w3 b' cap' ∧ w.heap.size ≤ b' ∧ Ext [b] (w2.alloc (.cells (codeCells [⟨r, 0, 0, 0, 0, 0, 0, 0, 0⟩]).toArray 64)) w3 := by
      by_cases hc : 1 ≤ cap1
      · obtain ⟨w3, hr, hC3, hE3⟩ := append_room_code (n := 0) (m := 1) (cap := cap1) (c2 := 1) (b2 := w2.heap.size) (d := 0) hC2 [⟨r, 0, 0, 0, 0, 0, 0, 0, 0⟩] rfl (fun j v hj => by rw [Nat.zero_add, (Blk.new _ _ _).cell]; simpa using hj) (by omega) (by omega)
        exact ⟨b, cap1, w3, hr, hc, hcap1, hC3, hb1, hE3⟩
      · obtain ⟨cap', w3, hr, h1, h2, hC3, hE3⟩ := append_grow_code (w := w2.alloc (.cells (codeCells [⟨r, 0, 0, 0, 0, 0, 0, 0, 0⟩]).toArray 64)) (n := 0) (m := 1) (cap := cap1) (c2 := 1) (b2 := w2.heap.size) (d := 0) (some ⟨b, 0, none⟩) [] [⟨r, 0, 0, 0, 0, 0, 0, 0, 0⟩] rfl rfl (.inr ⟨_, _, rfl, by simp [Go.Proofs.Ytedabpldigcffaa.codeCells]⟩)
          (fun j v hj => by rw [Nat.zero_add, (Blk.new _ _ _).cell]; simpa using hj) (by omega) (by omega) (by omega)
        exact ⟨_, cap', w3, hr, h1, h2, hC3, by simp; omega, hE3.nil⟩
    obtain ⟨b', cap', w3, hr, h1, h2, hC3, hb', hE3⟩ := hrun
    have HX := hd (And.intro h1 (And.intro h2 (And.intro hC3 hb')))
    have HE : Hd (Ext [g] w w3) := hd ((((HE1.out.nil).trans hE2).alloc _).step hE3 (fun i hi => .inr (by rw [List.mem_singleton.1 hi]; exact hb1)))
    have HST : Hd (Stm w3 base g n) := hd ((hS2.alloc _).ext hE3 (by simp; omega) (fun i hi => by rw [List.mem_singleton.1 hi]; exact Nat.le_trans HBW.out hb1))
    clear h1 h2 hC3 hE3 hE2 hS2 hC2 hC hb'
    go_wp2_with (at_builtin; refine Lib.wpList_append_run _ rfl _ _ _ _ rfl _ _ rfl rfl _ _ (hr _) ?_)
    go_ret
    obtain ⟨h1, h2, hC3, hb'⟩ := HX.out
    exact ⟨_, 1, rfl, .inr ⟨_, _, rfl, by omega, h2, hC3, hb'⟩, by omega, HE.out, HST.out⟩

theorem spoil_end {base g n len b cap : Nat} {w w4 : World} (hC : CodeB w4 b cap) (hE : Ext [g] w w4) (hS : Stm w4 base g n) (hb : w.heap.size ≤ b) (hbase : base ≤ w.heap.size) (hg : g < w.heap.size) (k f : Nat) (y : Int) (hk : k < len) (hl : len ≤ cap) (hf : f < 9) (hcap : cap ≤ 9223372036854775807) :
    SpoilP base g n len w (.returned (.slice (some ⟨b, 0, none⟩) len cap)) (w4.setCell ⟨b, k * 9 + f, none⟩ (.int .i64 y)) :=
  ⟨_, len, rfl, .inr ⟨_, _, rfl, hl, hcap, hC.set k f y (by omega) hf, hb⟩, by omega, hE.setCell (.inr hb) _, hS.setAt (by omega) (by omega)⟩

set_option maxHeartbeats 4000000 in
set_option maxRecDepth 100000 in
theorem spoiled_some (base g n : Nat) (A : Option Addr) (cap : Nat) (xs : List Ins) (len : Nat) (w : World) (h : RdC w A xs) (hlen : xs.length = len) (h0 : 0 < len) (hl : len ≤ 800000) (hS : Stm w base g (n + 10)) :
    Calls Try.prog 19 #[.pointer (some ⟨g, 0, none⟩), .slice A len cap] w (SpoilP base g n len w) := by
  have HS := hd hS
  have hcl := clone_code A cap xs w h (by omega)
  rw [hlen] at hcl
  have HCL := hd hcl
  clear hS h hlen hcl
  go_enter Try.func19, Try.ntmps19
  go_wp2_with fail
  refine HCL.out.mono ?_
  rintro e w1 ⟨v, rfl, hC, hE⟩
  rcases hC with ⟨rfl, hx0⟩ | ⟨b, cap1, rfl, hn1, hcap1, hC, hb1⟩
  · omega
  have HS1 := hd (HS.out.ext hE (by simp) (by simp))
  have HE1 := hd hE
  have hgw : g < w1.heap.size := HS1.out.lt
  have hgg : g < w.heap.size := HS.out.lt
  have HBW : Hd (base ≤ w.heap.size) := hd (Nat.le_trans HS.out.base (Nat.le_of_lt hgg))
  have hbl := hC.lt
  have HC1 := hd hC
  clear hE hC
  go_wp2_with fail
  refine (next_any base g (n + 8) _ _ (HS1.out.less (by omega)) (by omega)).mono ?_
  rintro e w2 ⟨r, rfl, ⟨hr0, hr1⟩, hE2, hS2⟩
  obtain ⟨k, rfl⟩ : ∃ k : Nat, r = k := ⟨r.toNat, by omega⟩
  obtain ⟨m, rfl⟩ : ∃ m, len = k + 1 + m := ⟨len - (k + 1), by have := hr1 (by omega); omega⟩
  have HC2 := hd (HC1.out.ext hE2 (by simp; omega))
  have HS2 := hd hS2
  have HE2 := hd ((HE1.out.nil).trans hE2)
  clear hr0 hr1 hE2 hS2
  go_wp2_with fail
  refine (next_any base g (n + 7) _ _ (HS2.out.less (by omega)) (by omega)).mono ?_
  rintro e w3 ⟨s, rfl, ⟨hs0, hs1⟩, hE3, hS3⟩
  have HC3 := hd (HC2.out.ext hE3 (by simp; omega))
  have HS3 := hd hS3
  have HE3 := hd (HE2.out.trans hE3)
  have hs11 : s = 0 ∨ s = 1 ∨ s = 2 ∨ s = 3 ∨ s = 4 ∨ s = 5 ∨ s = 6 ∨ s = 7 ∨ s = 8 ∨ s = 9 ∨ s = 10 := by have := hs1 (by omega); omega
  clear hs0 hs1 hE3 hS3
  rcases hs11 with rfl | rfl | rfl | rfl | rfl | rfl | rfl | rfl | rfl | rfl | rfl
  -- ARMS
  · go_wp2_with fail
    refine (range_any base g (n + 5) 0 20 _ (HS3.out.less (by omega)) (by omega) (by omega)).mono ?_
    rintro e w4 ⟨rp, rfl, _, hE, hS⟩
    have HC4 := hd (HC3.out.ext hE (by simp; omega))
    have HS4 := hd hS
    have HE4 := hd (HE3.out.trans hE)
    clear hE hS
    obtain ⟨y, hy⟩ := HC4.out.at k (by omega)
    have q1 := hy 0 _ rfl
    have q2 := HC4.out.frozen (k * 9)
    have q3 := HC4.out.lt
    simp only [Nat.add_zero] at q1
    clear hy
    go_wp2_with fail
    go_ret
    exact spoil_end HC4.out HE4.out (HS4.out.less (by omega)) hb1 HBW.out hgg k 0 rp (by omega) hn1 (by omega) hcap1
  · obtain ⟨y3, hy3⟩ := HC3.out.at k (by omega)
    have c6 := hy3 6 _ rfl
    generalize y3.p = p at c6
    clear hy3
    by_cases hp : p = 0
    · subst hp
      go_wp2_with fail
      refine (pick_any base g (n + 5) w3.heap.size 8 3 [0, 1, 2, 3, 4, 15, 16, 34] _ ((HS3.out.less (by omega)).alloc _) (Blk.new _ _ _) (by have := HS3.out.lt; omega) (by decide)).mono ?_
      rintro e w4 ⟨rp, rfl, _, hE, hS⟩
      have hEE := ((Ext.refl [g] w3).alloc (.cells (Nums [0, 1, 2, 3, 4, 15, 16, 34]) 3)).trans hE
      have HC4 := hd (HC3.out.ext hEE (by simp; omega))
      have HS4 := hd hS
      have HE4 := hd (HE3.out.trans hEE)
      clear hE hS hEE
      obtain ⟨y, hy⟩ := HC4.out.at k (by omega)
      have q1 := hy 1 _ rfl
      have q2 := HC4.out.frozen (k * 9 + 1)
      have q3 := HC4.out.lt
      clear hy
      go_wp2_with fail
      go_ret
      exact spoil_end HC4.out HE4.out (HS4.out.less (by omega)) hb1 HBW.out hgg k 1 rp (by omega) hn1 (by omega) hcap1
    · have hp2 : (p == 0) = false := by simpa using hp
      go_wp2_with fail
      go_ret
      exact ⟨_, _, rfl, .inr ⟨_, _, rfl, hn1, hcap1, HC3.out, hb1⟩, by omega, HE3.out, HS3.out.less (by omega)⟩
  · go_wp2_with fail
    refine (pick_any base g (n + 5) w3.heap.size 7 3 [-1, 8, 15, 16, 1, 31, 32] _ ((HS3.out.less (by omega)).alloc _) (Blk.new _ _ _) (by have := HS3.out.lt; omega) (by decide)).mono ?_
    rintro e w4 ⟨rp, rfl, _, hE, hS⟩
    have hEE := ((Ext.refl [g] w3).alloc (.cells (Nums [-1, 8, 15, 16, 1, 31, 32]) 3)).trans hE
    have HC4 := hd (HC3.out.ext hEE (by simp; omega))
    have HS4 := hd hS
    have HE4 := hd (HE3.out.trans hEE)
    clear hE hS hEE
    obtain ⟨y, hy⟩ := HC4.out.at k (by omega)
    have q1 := hy 2 _ rfl
    have q2 := HC4.out.frozen (k * 9 + 2)
    have q3 := HC4.out.lt
    clear hy
    go_wp2_with fail
    go_ret
    exact spoil_end HC4.out HE4.out (HS4.out.less (by omega)) hb1 HBW.out hgg k 2 rp (by omega) hn1 (by omega) hcap1
  · go_wp2_with fail
    refine (pick_any base g (n + 5) w3.heap.size 5 3 [-1, 7, 8, 15, 16] _ ((HS3.out.less (by omega)).alloc _) (Blk.new _ _ _) (by have := HS3.out.lt; omega) (by decide)).mono ?_
    rintro e w4 ⟨rp, rfl, _, hE, hS⟩
    have hEE := ((Ext.refl [g] w3).alloc (.cells (Nums [-1, 7, 8, 15, 16]) 3)).trans hE
    have HC4 := hd (HC3.out.ext hEE (by simp; omega))
    have HS4 := hd hS
    have HE4 := hd (HE3.out.trans hEE)
    clear hE hS hEE
    obtain ⟨y, hy⟩ := HC4.out.at k (by omega)
    have q1 := hy 3 _ rfl
    have q2 := HC4.out.frozen (k * 9 + 3)
    have q3 := HC4.out.lt
    clear hy
    go_wp2_with fail
    go_ret
    exact spoil_end HC4.out HE4.out (HS4.out.less (by omega)) hb1 HBW.out hgg k 3 rp (by omega) hn1 (by omega) hcap1
  · go_wp2_with fail
    refine (pick_any base g (n + 5) w3.heap.size 5 3 [-1, 7, 8, 16, 3] _ ((HS3.out.less (by omega)).alloc _) (Blk.new _ _ _) (by have := HS3.out.lt; omega) (by decide)).mono ?_
    rintro e w4 ⟨rp, rfl, _, hE, hS⟩
    have hEE := ((Ext.refl [g] w3).alloc (.cells (Nums [-1, 7, 8, 16, 3]) 3)).trans hE
    have HC4 := hd (HC3.out.ext hEE (by simp; omega))
    have HS4 := hd hS
    have HE4 := hd (HE3.out.trans hEE)
    clear hE hS hEE
    obtain ⟨y, hy⟩ := HC4.out.at k (by omega)
    have q1 := hy 4 _ rfl
    have q2 := HC4.out.frozen (k * 9 + 4)
    have q3 := HC4.out.lt
    clear hy
    go_wp2_with fail
    go_ret
    exact spoil_end HC4.out HE4.out (HS4.out.less (by omega)) hb1 HBW.out hgg k 4 rp (by omega) hn1 (by omega) hcap1
  · go_wp2_with fail
    refine (pick_any base g (n + 5) w3.heap.size 8 3 [-1, 2, 7, 8, 1000, 1001, -1000, -1001] _ ((HS3.out.less (by omega)).alloc _) (Blk.new _ _ _) (by have := HS3.out.lt; omega) (by decide)).mono ?_
    rintro e w4 ⟨rp, rfl, _, hE, hS⟩
    have hEE := ((Ext.refl [g] w3).alloc (.cells (Nums [-1, 2, 7, 8, 1000, 1001, -1000, -1001]) 3)).trans hE
    have HC4 := hd (HC3.out.ext hEE (by simp; omega))
    have HS4 := hd hS
    have HE4 := hd (HE3.out.trans hEE)
    clear hE hS hEE
    obtain ⟨y, hy⟩ := HC4.out.at k (by omega)
    have q1 := hy 5 _ rfl
    have q2 := HC4.out.frozen (k * 9 + 5)
    have q3 := HC4.out.lt
    clear hy
    go_wp2_with fail
    go_ret
    exact spoil_end HC4.out HE4.out (HS4.out.less (by omega)) hb1 HBW.out hgg k 5 rp (by omega) hn1 (by omega) hcap1
  · obtain ⟨y3, hy3⟩ := HC3.out.at k (by omega)
    have c1 := hy3 1 _ rfl
    generalize y3.k = p at c1
    clear hy3
    by_cases hp : p = 0
    · subst hp
      go_wp2_with fail
      refine (pick_any base g (n + 5) w3.heap.size 5 3 [0, 1, 16, 17, -1] _ ((HS3.out.less (by omega)).alloc _) (Blk.new _ _ _) (by have := HS3.out.lt; omega) (by decide)).mono ?_
      rintro e w4 ⟨rp, rfl, _, hE, hS⟩
      have hEE := ((Ext.refl [g] w3).alloc (.cells (Nums [0, 1, 16, 17, -1]) 3)).trans hE
      have HC4 := hd (HC3.out.ext hEE (by simp; omega))
      have HS4 := hd hS
      have HE4 := hd (HE3.out.trans hEE)
      clear hE hS hEE
      obtain ⟨y, hy⟩ := HC4.out.at k (by omega)
      have q1 := hy 6 _ rfl
      have q2 := HC4.out.frozen (k * 9 + 6)
      have q3 := HC4.out.lt
      clear hy
      go_wp2_with fail
      go_ret
      exact spoil_end HC4.out HE4.out (HS4.out.less (by omega)) hb1 HBW.out hgg k 6 rp (by omega) hn1 (by omega) hcap1
    · have hp2 : (p == 0) = false := by simpa using hp
      by_cases hp3 : 4 ≤ p
      · by_cases hp4 : p ≤ 15
        · go_wp2_with fail
          refine (pick_any base g (n + 5) w3.heap.size 5 3 [0, 1, 16, 17, -1] _ ((HS3.out.less (by omega)).alloc _) (Blk.new _ _ _) (by have := HS3.out.lt; omega) (by decide)).mono ?_
          rintro e w4 ⟨rp, rfl, _, hE, hS⟩
          have hEE := ((Ext.refl [g] w3).alloc (.cells (Nums [0, 1, 16, 17, -1]) 3)).trans hE
          have HC4 := hd (HC3.out.ext hEE (by simp; omega))
          have HS4 := hd hS
          have HE4 := hd (HE3.out.trans hEE)
          clear hE hS hEE
          obtain ⟨y, hy⟩ := HC4.out.at k (by omega)
          have q1 := hy 6 _ rfl
          have q2 := HC4.out.frozen (k * 9 + 6)
          have q3 := HC4.out.lt
          clear hy
          go_wp2_with fail
          go_ret
          exact spoil_end HC4.out HE4.out (HS4.out.less (by omega)) hb1 HBW.out hgg k 6 rp (by omega) hn1 (by omega) hcap1
        · have hp5 : decide (p ≤ 15) = false := by simpa using hp4
          go_wp2_with fail
          go_ret
          exact ⟨_, _, rfl, .inr ⟨_, _, rfl, hn1, hcap1, HC3.out, hb1⟩, by omega, HE3.out, HS3.out.less (by omega)⟩
      · have hp5 : decide (4 ≤ p) = false := by simpa using hp3
        go_wp2_with fail
        go_ret
        exact ⟨_, _, rfl, .inr ⟨_, _, rfl, hn1, hcap1, HC3.out, hb1⟩, by omega, HE3.out, HS3.out.less (by omega)⟩
  · go_wp2_with fail
    refine (pick_any base g (n + 5) w3.heap.size 6 3 [0, 31, 32, 2147483647, 2147483648, -2147483649] _ ((HS3.out.less (by omega)).alloc _) (Blk.new _ _ _) (by have := HS3.out.lt; omega) (by decide)).mono ?_
    rintro e w4 ⟨rp, rfl, _, hE, hS⟩
    have hEE := ((Ext.refl [g] w3).alloc (.cells (Nums [0, 31, 32, 2147483647, 2147483648, -2147483649]) 3)).trans hE
    have HC4 := hd (HC3.out.ext hEE (by simp; omega))
    have HS4 := hd hS
    have HE4 := hd (HE3.out.trans hEE)
    clear hE hS hEE
    obtain ⟨y, hy⟩ := HC4.out.at k (by omega)
    have q1 := hy 7 _ rfl
    have q2 := HC4.out.frozen (k * 9 + 7)
    have q3 := HC4.out.lt
    clear hy
    go_wp2_with fail
    go_ret
    exact spoil_end HC4.out HE4.out (HS4.out.less (by omega)) hb1 HBW.out hgg k 7 rp (by omega) hn1 (by omega) hcap1
  · go_wp2_with fail
    refine (pick_any base g (n + 5) w3.heap.size 7 3 [0, 1, 256, 257, 1000000, 1000001, -1] _ ((HS3.out.less (by omega)).alloc _) (Blk.new _ _ _) (by have := HS3.out.lt; omega) (by decide)).mono ?_
    rintro e w4 ⟨rp, rfl, _, hE, hS⟩
    have hEE := ((Ext.refl [g] w3).alloc (.cells (Nums [0, 1, 256, 257, 1000000, 1000001, -1]) 3)).trans hE
    have HC4 := hd (HC3.out.ext hEE (by simp; omega))
    have HS4 := hd hS
    have HE4 := hd (HE3.out.trans hEE)
    clear hE hS hEE
    obtain ⟨y, hy⟩ := HC4.out.at k (by omega)
    have q1 := hy 8 _ rfl
    have q2 := HC4.out.frozen (k * 9 + 8)
    have q3 := HC4.out.lt
    clear hy
    go_wp2_with fail
    go_ret
    exact spoil_end HC4.out HE4.out (HS4.out.less (by omega)) hb1 HBW.out hgg k 8 rp (by omega) hn1 (by omega) hcap1
  · go_wp2_with fail
    refine (delete_code b cap1 k m _ HC3.out hn1 hcap1).mono ?_
    rintro e w4 ⟨rfl, hC4, hE4⟩
    have HC4 := hd hC4
    have HE4 : Hd (Ext [g] w w4) := hd (HE3.out.step hE4 (fun i hi => .inr (by rw [List.mem_singleton.1 hi]; exact hb1)))
    have HS4 : Hd (Stm w4 base g n) := hd ((HS3.out.less (by omega)).ext hE4 (by simp; omega) (fun i hi => by rw [List.mem_singleton.1 hi]; exact Nat.le_trans HBW.out hb1))
    clear hC4 hE4
    go_wp2_with fail
    go_ret
    exact ⟨_, _, rfl, .inr ⟨_, _, rfl, by omega, hcap1, HC4.out, hb1⟩, by omega, HE4.out, HS4.out⟩
  · go_wp2_with fail
    refine (pick_any base g (n + 5) w3.heap.size 3 3 [4, 3, 16] _ ((HS3.out.less (by omega)).alloc _) (Blk.new _ _ _) (by have := HS3.out.lt; omega) (by decide)).mono ?_
    rintro e w4 ⟨rp, rfl, _, hE, hS⟩
    have hEE := ((Ext.refl [g] w3).alloc (.cells (Nums [4, 3, 16]) 3)).trans hE
    have HC4 := hd (HC3.out.ext hEE (by simp; omega))
    have HS4 := hd hS
    have HE4 := hd (HE3.out.trans hEE)
    clear hE hS hEE
    go_wp2_with fail
    have hbw4 : b < w4.heap.size := HC4.out.lt
    have hgw4 : g < w4.heap.size := HS4.out.lt
    have HI : Hd (Calls Try.prog 52 #[.slice (some ⟨b, 0, none⟩) (k + 1 + m) cap1, .int .i64 k, .slice (some ⟨w4.heap.size, 0, none⟩) 1 1] (w4.alloc (.cells (codeCells [⟨rp, 0, 0, 0, 0, 0, 0, 0, 0⟩]).toArray 64)) (InsP b (k + 1 + m + 1) (w4.alloc (.cells (codeCells [⟨rp, 0, 0, 0, 0, 0, 0, 0, 0⟩]).toArray 64)))) := hd (by
      have hCA := HC4.out.ext (w' := w4.alloc (.cells (codeCells [⟨rp, 0, 0, 0, 0, 0, 0, 0, 0⟩]).toArray 64)) ((Ext.refl [] _).alloc _) (by simp)
      by_cases hrm : k + 1 + m + 1 ≤ cap1
      · exact insert_room b cap1 k m w4.heap.size 1 ⟨rp, 0, 0, 0, 0, 0, 0, 0, 0⟩ _ hCA (Blk.new _ _ _) (by omega) hrm hcap1
      · obtain rfl : cap1 = k + 1 + m := by omega
        exact insert_grow b k m w4.heap.size 1 ⟨rp, 0, 0, 0, 0, 0, 0, 0, 0⟩ _ hCA (Blk.new _ _ _) (by omega) (by omega))
    refine HI.out.mono ?_
    rintro e w5 ⟨b', cap', rfl, h1, h2, hC5, hbb, hE5⟩
    have HX := hd (And.intro h1 (And.intro h2 hC5))
    have hsz : w.heap.size ≤ w4.heap.size := HE4.out.size
    have HB5 : Hd (w.heap.size ≤ b') := hd (by rcases hbb with rfl | hbb; exact hb1; simp at hbb; omega)
    have HE5 : Hd (Ext [g] w w5) := hd ((HE4.out.alloc _).step hE5 (fun i hi => .inr (by rw [List.mem_singleton.1 hi]; exact hb1)))
    have HS5 : Hd (Stm w5 base g n) := hd (((HS4.out.less (by omega)).alloc _).ext hE5 (by simp; omega) (fun i hi => by rw [List.mem_singleton.1 hi]; exact Nat.le_trans HBW.out hb1))
    clear h1 h2 hC5 hE5 hbb
    go_wp2_with fail
    go_ret
    obtain ⟨h1, h2, hC5⟩ := HX.out
    exact ⟨_, _, rfl, .inr ⟨_, _, rfl, h1, h2, hC5, HB5.out⟩, Nat.le_refl _, HE5.out, HS5.out⟩
end Go.Proofs.Ytedabpldigcffaa
