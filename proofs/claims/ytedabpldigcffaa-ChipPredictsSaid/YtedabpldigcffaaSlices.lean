/- Go's slices.Index and slices.Contains on ints: the value is found just if it is an element. Condition: the slice reads as a list of ints. -/
import Derived.Test.YtedabpldigcffaaBase
namespace Go.Proofs.Ytedabpldigcffaa
open Go.RowKit

/-- The slice's cells from A on read as the ints xs. -/
def RdI (w : World) (A : Option Addr) (xs : List Int) : Prop := xs = [] ∨ ∃ b o, A = some ⟨b, o, none⟩ ∧ ∀ i x, xs[i]? = some x → w.cell? ⟨b, o + i, none⟩ = some (.int .i64 x)

theorem RdI.ext {S : List Nat} {w w' : World} {A : Option Addr} {xs : List Int} (h : RdI w A xs) (hE : Ext S w w') (hS : ∀ a, A = some a → a.block ∉ S) : RdI w' A xs := by
  rcases h with h | ⟨b, o, rfl, h⟩
  · exact .inl h
  · exact .inr ⟨b, o, rfl, fun i x hx => hE.held (h i x hx) (show b ∉ S from hS ⟨b, o, none⟩ rfl)⟩
theorem RdI.new (w : World) (t : TypeId) (xs : List Int) : RdI (w.alloc (.cells (Nums xs) t)) (some ⟨w.heap.size, 0, none⟩) xs := by
  refine .inr ⟨_, 0, rfl, fun i x hx => ?_⟩
  rw [Nat.zero_add, (Blk.new w t (Nums xs)).cell]
  simp [Nums, hx]

set_option maxHeartbeats 400000 in
theorem index_int (A : Option Addr) (cap : Nat) (xs : List Int) (x : Int) (w : World) (h : RdI w A xs) (hl : xs.length ≤ 9223372036854775807) :
    Calls Try.prog 111 #[.slice A xs.length cap, .int .i64 x] w fun e w' => (∃ r : Int, e = .returned (.int .i64 r) ∧ (0 ≤ r ↔ x ∈ xs)) ∧ w = w' := by
  have HH := hd h
  clear h
  go_enter Try.func111, Try.ntmps111
  go_wp2
  go_loop [8] (fun i => ∃ k : Nat, k ≤ xs.length ∧ i = .int .i64 k ∧ Hd (∀ j y, j < k → xs[j]? = some y → y ≠ x)) (fun i => xs.length - (intOf i).toNat)
  case atStart => exact ⟨0, Nat.zero_le _, rfl, hd fun j y hj => absurd hj (by omega)⟩
  case round =>
    obtain ⟨k, hk, rfl, hn⟩ := hrel
    by_cases hlt : k < xs.length
    · rcases HH.out with h0 | ⟨b, o, rfl, hc⟩
      · simp [h0] at hlt
      · have hx := List.getElem?_eq_getElem hlt
        have hck := hc k _ hx
        have HX := hd hx
        generalize xs[k] = y at hck HX
        clear hc hx
        by_cases hyx : x = y
        · have hb : (x == y) = true := by simpa using hyx
          have HY := hd hyx
          clear hyx
          go_wp2
          go_ret
          exact ⟨⟨_, rfl, by constructor; (intro _; rw [HY.out]; exact List.mem_of_getElem? HX.out); (intro _; omega)⟩, rfl⟩
        · have hb : (x == y) = false := by simpa using hyx
          have HY := hd hyx
          clear hyx
          go_wp2
          go_round
          case rel =>
            refine ⟨k + 1, by omega, by go_num, hd fun j z hj hz => ?_⟩
            rcases Nat.lt_or_ge j k with h1 | h1
            · exact hn.out j z h1 hz
            · have : j = k := by omega
              subst this
              rw [HX.out] at hz
              cases hz
              exact fun e => HY.out e.symm
          case measure => simp [intOf]; omega
    · go_wp2
      go_ret
      refine ⟨⟨_, rfl, ?_⟩, rfl⟩
      constructor
      · intro h0; omega
      · intro hm
        obtain ⟨i, hi⟩ := List.getElem?_of_mem hm
        have hil := (List.getElem?_eq_some_iff.1 hi).1
        exact absurd rfl (hn.out i x (by omega) hi)

theorem contains_int (A : Option Addr) (cap : Nat) (xs : List Int) (x : Int) (w : World) (h : RdI w A xs) (hl : xs.length ≤ 9223372036854775807) :
    Calls Try.prog 91 #[.slice A xs.length cap, .int .i64 x] w fun e w' => e = .returned (.bool (decide (x ∈ xs))) ∧ w = w' := by
  go_enter Try.func91, Try.ntmps91
  go_wp2_with fail
  refine (index_int A cap xs x w h hl).mono ?_
  rintro e w' ⟨⟨r, rfl, hr⟩, rfl⟩
  have HR := hd hr
  clear hr
  go_wp2_with fail
  go_ret
  exact ⟨ret_bool (by rw [Bool.eq_iff_iff]; simp only [decide_eq_true_eq]; exact HR.out), rfl⟩
end Go.Proofs.Ytedabpldigcffaa
