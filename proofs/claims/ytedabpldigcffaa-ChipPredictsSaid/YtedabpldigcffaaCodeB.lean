/- Blocks that are code whole, and copies within them. Condition: the copies lie within the blocks. -/
import Derived.Test.YtedabpldigcffaaChipC
namespace Go.Proofs.Ytedabpldigcffaa
open Go.RowKit
set_option linter.unusedSimpArgs false
set_option linter.unusedVariables false

/-- copy at elements of some cells each. -/
theorem run_copy_wide {P : Program} (w : World) (dT sT ty elem : TypeId) (size g o dLen dCap : Nat) (a : Addr) (sLen sCap : Nat) (cur : Array Value) (t : TypeId) (cs : List Value)
    (hu : P.underlying dT = some (.slice elem)) (hs : (P.info? elem).map (·.size) = some size)
    (hg : w.heap[g]? = some (.cells cur t (0, 0))) (hn : cs.length = Nat.min sLen dLen * size)
    (hsrc : ∀ j v, cs[j]? = some v → w.cell? (a.add j) = some v) (hfit : o + cs.length ≤ cur.size) (h1 : ∀ v ∈ cs, v.oneCell' = true) :
    (Builtin.copy_ #[dT, sT] ty #[.slice (some ⟨g, o, none⟩) dLen dCap, .slice (some a) sLen sCap]).run P w =
      .ok (goInt (Nat.min sLen dLen)) (w.setRow g (cur.toList.take o ++ cs ++ cur.toList.drop (o + cs.length)).toArray) := by
  have hl := run_loadCells_list (P := P) w a cs hsrc
  have hst := run_storeCells_at P g o t cs 0 cur w hg (by simpa using hfit) h1
  cases hq : P.info? elem with
  | none => simp [hq] at hs
  | some i =>
    have hi : i.size = size := by simpa [hq] using hs
    simp [Builtin.copy_, run_underlying hu, Builtin.lenOf, Builtin.firstCells, sizeOf, typeInfo, hq, hi, ← hn, hl, hst]

theorem codeCells_take (l : List Ins) (k : Nat) : (codeCells l).take (k * 9) = codeCells (l.take k) := by
  induction l generalizing k with
  | nil => simp [codeCells]
  | cons x l ih =>
    cases k with
    | zero => simp [codeCells]
    | succ k =>
      have hx : x.cells.length = 9 := rfl
      have e : codeCells (x :: l) = x.cells ++ codeCells l := rfl
      rw [e, List.take_append, List.take_of_length_le (by rw [hx]; omega), hx, show (k + 1) * 9 - 9 = k * 9 by omega, ih k]
      rfl
theorem codeCells_drop (l : List Ins) (k : Nat) : (codeCells l).drop (k * 9) = codeCells (l.drop k) := by
  induction l generalizing k with
  | nil => simp [codeCells]
  | cons x l ih =>
    cases k with
    | zero => simp [codeCells]
    | succ k =>
      have hx : x.cells.length = 9 := rfl
      have e : codeCells (x :: l) = x.cells ++ codeCells l := rfl
      rw [e, List.drop_append, List.drop_of_length_le (by rw [hx]; omega), hx, show (k + 1) * 9 - 9 = k * 9 by omega, ih k]
      rfl
theorem codeCells_append (a b : List Ins) : codeCells (a ++ b) = codeCells a ++ codeCells b := by simp [codeCells]
theorem codeCells_one' (l : List Ins) : ∀ u ∈ codeCells l, u.oneCell' = true := by
  intro u hu
  obtain ⟨x, _, hx⟩ := List.mem_flatMap.1 hu
  simp [Ins.cells] at hx
  rcases hx with rfl | rfl | rfl | rfl | rfl | rfl | rfl | rfl | rfl <;> rfl
/-- Block b is code of n instructions. -/
def CodeB (w : World) (b n : Nat) : Prop := ∃ xs : List Ins, xs.length = n ∧ Blk w b 64 (codeCells xs).toArray
/-- A copy of some instructions onto others. -/
theorem copy_code {w : World} {b n o k c1 c2 b2 d : Nat} (h : CodeB w b n) (ys : List Ins) (hys : ys.length = k) (hsrc : ∀ j v, (codeCells ys)[j]? = some v → w.cell? ⟨b2, d + j, none⟩ = some v) (ty : TypeId) (dLen sLen : Nat) (hk : Nat.min sLen dLen = k) (hfit : o + k ≤ n) :
    ∃ w', (Builtin.copy_ #[41, 41] ty #[.slice (some ⟨b, o * 9, none⟩) dLen c1, .slice (some ⟨b2, d, none⟩) sLen c2]).run Try.prog w = .ok (.int .i64 k) w' ∧ CodeB w' b n ∧ Ext [b] w w' := by
  obtain ⟨xs, hx, hB⟩ := h
  refine ⟨_, run_copy_wide (P := Try.prog) w _ _ ty 64 9 b (o * 9) dLen c1 ⟨b2, d, none⟩ sLen c2 _ 64 (codeCells ys) Try.underlying41 (by kernel_rfl) hB (by rw [codeCells_length, hys, hk]) (fun j v hv => by rw [Addr.add_mk]; exact hsrc j v hv) (by simp [codeCells_length]; omega) (codeCells_one' ys) |>.trans (by rw [hk]; rfl), ?_, ?_⟩
  · refine ⟨xs.take o ++ ys ++ xs.drop (o + k), by simp; omega, ?_⟩
    unfold Blk
    rw [setRow_heap w b _ _ _ _ hB]
    congr 2
    rw [codeCells_append, codeCells_append, ← codeCells_take, ← codeCells_drop]
    simp [codeCells_length, hys, Nat.add_mul]
  · exact ⟨rfl, rfl, rfl, by simp [World.setRow], fun i _ hi => setRow_other w b i _ (by simpa using hi)⟩
theorem CodeB.lt {w : World} {b n : Nat} (h : CodeB w b n) : b < w.heap.size := by obtain ⟨xs, _, hB⟩ := h; exact hB.lt
end Go.Proofs.Ytedabpldigcffaa
