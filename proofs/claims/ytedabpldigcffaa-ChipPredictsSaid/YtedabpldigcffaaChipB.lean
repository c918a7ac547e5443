/- The small machine's chip before its first instruction. -/
import Derived.Test.YtedabpldigcffaaChipA
namespace Go.Proofs.Ytedabpldigcffaa
open Go.RowKit
set_option linter.unusedSimpArgs false
set_option linter.unusedVariables false

/-- Blocks keep their sizes and types. -/
def Shape (w w' : World) : Prop := ∀ (k : Nat) (cur : Array Value) (t : TypeId), w.heap[k]? = some (.cells cur t (0, 0)) → ∃ cur' : Array Value, w'.heap[k]? = some (.cells cur' t (0, 0)) ∧ cur'.size = cur.size
theorem Shape.refl (w : World) : Shape w w := fun _ cur _ h => ⟨cur, h, rfl⟩
theorem Shape.trans {a b c : World} (h : Shape a b) (k : Shape b c) : Shape a c := fun i cur t hi => by
  obtain ⟨c1, h1, e1⟩ := h i cur t hi
  obtain ⟨c2, h2, e2⟩ := k i c1 t h1
  exact ⟨c2, h2, e2.trans e1⟩
theorem Shape.alloc {a w : World} (h : Shape a w) (o : Obj) : Shape a (w.alloc o) := h.trans fun i cur t hi =>
  ⟨cur, (Below.heap_alloc w o i (Array.getElem?_eq_some_iff.1 hi).1).trans hi, rfl⟩
theorem Shape.drew {a w : World} (h : Shape a w) : Shape a w.drew := h
theorem Shape.of_ext {w w' : World} (h : Ext [] w w') : Shape w w' := fun i cur _ hi => ⟨cur, (h.block i (Array.getElem?_eq_some_iff.1 hi).1 (by simp)).trans hi, rfl⟩
theorem Shape.setRow {w : World} (g : Nat) (cs old : Array Value) (t : TypeId) (hg : w.heap[g]? = some (.cells old t (0, 0))) (hs : cs.size = old.size) : Shape w (w.setRow g cs) := fun k cur u hk => by
  by_cases h : k = g
  · subst h
    rw [hg] at hk
    cases hk
    exact ⟨cs, setRow_heap w k old cs t (0, 0) hg, hs⟩
  · exact ⟨cur, (setRow_other w g k cs h).trans hk, rfl⟩
/-- A row of the call's own, whatever it holds. -/
def Row (w : World) (base : Nat) (e : TypeId) (v : Value) (n : Nat) : Prop := ∃ xs, w.ownsRow base e 1 v n xs
theorem Row.shape {w w' : World} {base : Nat} {e : TypeId} {v : Value} {n : Nat} (h : Row w base e v n) (hs : Shape w w') : Row w' base e v n := by
  obtain ⟨xs, hl, hx⟩ := h
  rcases hx with ⟨rfl, rfl⟩ | ⟨g, cap, cur, rfl, hb, hg, h1, h2, h3, h4⟩
  · exact ⟨[], rfl, .inl ⟨rfl, rfl⟩⟩
  · obtain ⟨cur', hg', hz⟩ := hs g cur e hg
    refine ⟨cur'.toList.take (n * 1), ?_, .inr ⟨g, cap, cur', rfl, hb, hg', h1, h2, hz.trans h3, rfl⟩⟩
    rw [List.length_take, Array.length_toList, hz, h3]
    exact Nat.min_eq_left (Nat.mul_le_mul_right _ h1)
theorem Row.nil (w : World) (base : Nat) (e : TypeId) : Row w base e (.slice none 0 0) 0 := ⟨[], rfl, .inl ⟨rfl, rfl⟩⟩

/-- append keeps the sizes of blocks. -/
theorem run_append_shape (w : World) (t ty : TypeId) (base : Nat) (e : TypeId) (i : TypeInfo) (z : Value) (bytes : Nat) (ht : Try.prog.underlying t = some (.slice e)) (hi : Try.prog.info? e = some i) (hz : i.zero = some z)
    (hsize : i.size = 1) (hby : i.bytes = bytes) (hzs : z.cells.size = 1)
    (v : Value) (n : Nat) (hown : Row w base e v n)
    (ad : Addr) (c : Nat) (x : Value) (hx : w.cell? ad = some x) (h1 : x.oneCell' = true) (had : ad.add 0 = ad)
    (h63 : n + 1 ≤ maxLen) (hbytes : (n + 1) * bytes ≤ 140737488355328) (hbase : base ≤ w.heap.size) :
    ∃ g cap w', (Builtin.append_ #[t, t] ty #[v, .slice (some ad) 1 c]).run Try.prog w = .ok (.slice (some ⟨g, 0, none⟩) (n + 1) cap) w' ∧
      Row w' base e (.slice (some ⟨g, 0, none⟩) (n + 1) cap) (n + 1) ∧ w.grownBy w' v.ownBlock ∧ Shape w w' := by
  obtain ⟨xs, hown⟩ := hown
  have hnews : ∀ j u, [x][j]? = some u → w.cell? (ad.add j) = some u := fun j u hj => by
    match j, hj with
    | 0, hj => cases hj; rw [had]; exact hx
  have hone : ∀ u ∈ [x], u.oneCell' = true := fun u hu => by rw [List.mem_singleton.1 hu]; exact h1
  obtain ⟨g, cap, w', hr, ho, hg, _, _⟩ := run_append_lies (P := Try.prog) w t ty base e i z 1 bytes ht hi hz hsize hby hzs (by decide) v n xs hown ad 1 c [x] rfl hnews hone (by decide) h63 hbytes hbase _ rfl
  refine ⟨g, cap, w', hr, ⟨_, ho⟩, hg, ?_⟩
  have hl : [x].length = 1 * i.size := by rw [hsize]; rfl
  rcases hown.2 with ⟨rfl, rfl⟩ | ⟨b, cp, cur, rfl, hb, hgb, hnc, hcm, hcs, htk⟩
  · have hr2 := run_append_nil (P := Try.prog) w t ty e i z ht hi hz ad 1 c [x] hl hnews (by omega) (by omega) (by rw [hby]; omega)
    have h3 := hr.symm.trans hr2
    injection h3 with _ e2
    rw [e2]
    exact ((Shape.refl w).drew).alloc _
  · by_cases hroom : n + 1 ≤ cp
    · have hfit : n * i.size + [x].length ≤ cur.size := by rw [hsize, hcs]; simp; omega
      have hr2 := run_append_room (P := Try.prog) w t ty e i ht hi b n cp cur hgb ad 1 c [x] hl hnews hone hroom hfit
      have h3 := hr.symm.trans hr2
      injection h3 with _ e2
      rw [e2]
      refine Shape.setRow b _ cur e hgb ?_
      simp only [List.size_toArray, List.length_append, List.length_take, List.length_drop, Array.length_toList]
      omega
    · have holds : ∀ j u, xs[j]? = some u → w.cell? ((⟨b, 0, none⟩ : Addr).add j) = some u := hown.cells (g := b) rfl
      have hr2 := run_append_grow (P := Try.prog) w t ty e i z ht hi hz ⟨b, 0, none⟩ n cp xs (by rw [hsize]; exact hown.1) holds ad 1 c [x] hl hnews (by omega) (by simp only [maxLen] at h63; omega) (growslice_fits (by omega) (by rw [hby]; exact hbytes))
      have h3 := hr.symm.trans hr2
      injection h3 with _ e2
      rw [e2]
      exact ((Shape.refl w).drew).alloc _

/-- The chip's cells. -/
def chipC (code ends main banks set queues : Value) (r1 pc cyc : Int) (over : Bool) : Array Value :=
  #[.int .i64 8, .int .i64 2, .int .i64 256, .int .i64 2, .int .i64 1, code, ends, main, banks, set, .int .i64 0, .int .i64 r1, .int .i64 0, .int .i64 0, .int .i64 0, .int .i64 0, .int .i64 0, .int .i64 0, .int .i64 0, .int .i64 0, .int .i64 0, .int .i64 0, .int .i64 0, .int .i64 0, .int .i64 0, .int .i64 0, .int .i64 0, .int .i64 0, .int .i64 0, .int .i64 0, .int .i64 0, .int .i64 0, .int .i64 0, .int .i64 0, .int .i64 0, .int .i64 0, .int .i64 0, .int .i64 0, .int .i64 0, .int .i64 0, .int .i64 0, .int .i64 0, .int .i64 0, .int .i64 0, .int .i64 0, .int .i64 0, .int .i64 0, .int .i64 0, .int .i64 0, .int .i64 0, .int .i64 0, .int .i64 0, .int .i64 0, .int .i64 0, .int .i64 0, .int .i64 0, .int .i64 0, .int .i64 0, .int .i64 0, .int .i64 0, .int .i64 0, .int .i64 0, .int .i64 0, .int .i64 0, .int .i64 0, .int .i64 0, .int .i64 0, .int .i64 0, .int .i64 0, .int .i64 0, .int .i64 0, .int .i64 0, .int .i64 0, .int .i64 0, .int .i64 0, .int .i64 0, .int .i64 0, .int .i64 0, .int .i64 0, .int .i64 0, .int .i64 0, .int .i64 0, .int .i64 0, .int .i64 0, .int .i64 0, .int .i64 0, .int .i64 0, .int .i64 0, .int .i64 0, .int .i64 0, .int .i64 0, .int .i64 0, .int .i64 0, .int .i64 0, .int .i64 0, .int .i64 0, .int .i64 0, .int .i64 0, .int .i64 0, .int .i64 0, .int .i64 0, .int .i64 0, .int .i64 0, .int .i64 0, .int .i64 0, .int .i64 0, .int .i64 0, .int .i64 0, .int .i64 0, .int .i64 0, .int .i64 0, .int .i64 0, .int .i64 0, .int .i64 0, .int .i64 0, .int .i64 0, .int .i64 0, .int .i64 0, .int .i64 0, .int .i64 0, .int .i64 0, .int .i64 0, .int .i64 0, .int .i64 0, .int .i64 0, .int .i64 0, .int .i64 0, .int .i64 0, .int .i64 0, .int .i64 0, .int .i64 0, .int .i64 0, .int .i64 0, .int .i64 0, .int .i64 0, .int .i64 0, .int .i64 0, .int .i64 0, .int .i64 0, .int .i64 0, .int .i64 0, .int .i64 0, .int .i64 0, .int .i64 0, .int .i64 0, .int .i64 0, .int .i64 0, .int .i64 0, .int .i64 0, .int .i64 0, .int .i64 0, .int .i64 0, .int .i64 0, .int .i64 0, .int .i64 0, .int .i64 0, .int .i64 0, .int .i64 0, .int .i64 0, .int .i64 0, .int .i64 0, .int .i64 0, queues, .slice none 0 0, .int .i64 pc, .int .i64 cyc, .int .i64 0, .int .i64 0, .bool over, .bool false]
end Go.Proofs.Ytedabpldigcffaa
