/- A stream over the argument. -/
import Derived.Test.YtgbjlccgnfcnaaaGreatStream
namespace Go.Proofs.YtgbjlccgnfcnaaaGreat
open Go.RowKit
set_option linter.unusedSimpArgs false
set_option linter.unusedVariables false

/-- A stream over the argument. -/
theorem stream_new (A : Option Addr) (len cap : Nat) (w : World) (hlen : len ≤ 9223372036854775807) (hA : 0 < len → ∃ b o, A = some ⟨b, o, none⟩ ∧ b < w.heap.size ∧ ∀ i, i < len → ∃ x, w.cell? ⟨b, o + i, none⟩ = some (.int .i64 x)) :
    Stm (w.alloc (.cells #[.slice A len cap, .int .i64 0] 32)) w.heap.size w.heap.size 1000000000 :=
  ⟨A, len, cap, 0, Blk.new _ _ _, Nat.le_refl _, Int.le_refl _, by omega, hlen, fun h => by
    obtain ⟨b, o, h1, h2, h3⟩ := hA h
    refine ⟨b, o, h1, h2, fun i hi => ?_⟩
    obtain ⟨x, hx⟩ := h3 i hi
    exact ⟨x, ((Ext.refl [] w).alloc _).held hx (by simp)⟩⟩
end Go.Proofs.YtgbjlccgnfcnaaaGreat
