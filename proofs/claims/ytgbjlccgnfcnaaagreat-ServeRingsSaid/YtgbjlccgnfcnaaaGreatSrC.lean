/- Ring: what it calls. -/
import Derived.Test.YtgbjlccgnfcnaaaGreatSrB
import Derived.Laws.AppendOwn
import Derived.Laws.Tables
namespace Go.Proofs.YtgbjlccgnfcnaaaGreat
open Go.RowKit
set_option linter.unusedSimpArgs false
set_option linter.unusedVariables false

def w32 (x : Int) : Int := IntKind.i32.wrap x
theorem w32_bd (x : Int) : -2147483648 ≤ w32 x ∧ w32 x ≤ 2147483647 := by unfold w32; rw [IntKind.wrap_i32]; omega
theorem wrap_any (x : Int) (w : World) : Calls Tryz.prog 50 #[.int .i64 x] w fun e w' => e = .returned (.int .i64 (w32 x)) ∧ w = w' := by
  have hb := w32_bd x
  go_enter Tryz.func50, Tryz.ntmps50
  go_wp2_with fail
  go_ret
  refine ⟨ret_int ?_, rfl⟩
  simp only [w32, IntKind.wrap_i32, IntKind.wrap_i64, IntKind.wrap_u32, wrap64, wrap32]
  first | done | omega
theorem wrapped_any (x : Int) (w : World) : Calls Tryz.prog 25 #[.int .i64 x] w fun e w' => e = .returned (.int .i64 (w32 x)) ∧ w = w' := by
  go_enter Tryz.func25, Tryz.ntmps25
  go_wp2_with fail
  go_ret
  refine ⟨ret_int ?_, rfl⟩
  simp only [w32, IntKind.wrap_i32, IntKind.wrap_i64, IntKind.wrap_u32, wrap64, wrap32]
  first | done | omega
theorem sisWord_any (x : Int) (w : World) : Calls Tryz.prog 49 #[.int .i64 x] w fun e w' => e = .returned (.bool (!badW x)) ∧ w = w' := by
  go_enter Tryz.func49, Tryz.ntmps49
  go_wp2_with fail
  refine (swithin_any _ _ _ _).mono ?_
  rintro e w' ⟨rfl, rfl⟩
  go_wp2_with fail
  go_ret
  exact ⟨ret_bool (by simp [badW]), rfl⟩
/-- A row of ints in a block of ints. -/
def RdB (w : World) (A : Option Addr) (xs : List Int) : Prop := xs = [] ∨ ∃ (b : Nat) (C : Array Value), A = some ⟨b, 0, none⟩ ∧ Blk w b 3 C ∧ ∀ (i : Nat) (x : Int), xs[i]? = some x → C[i]? = some (.int .i64 x)
theorem RdB.rd {w : World} {A : Option Addr} {xs : List Int} (h : RdB w A xs) : RdI w A xs := by
  rcases h with h | ⟨b, C, rfl, hB, hC⟩
  · exact .inl h
  · exact .inr ⟨b, 0, rfl, fun i x hx => by rw [Nat.zero_add, hB.cell]; exact hC i x hx⟩
theorem RdB.ext {w w' : World} {A : Option Addr} {xs : List Int} (h : RdB w A xs) (hE : Ext [] w w') : RdB w' A xs := by
  rcases h with h | ⟨b, C, rfl, hB, hC⟩
  · exact .inl h
  · exact .inr ⟨b, C, rfl, hB.ext hE (by simp), hC⟩
theorem RdB.grown {w w' : World} {A : Option Addr} {xs : List Int} {B n : Nat} {t : TypeId} {v : Value} {l : List Value} (h : RdB w A xs) (ho : w.ownsRow B t 1 v n l) (ht : t ≠ 3) (hg : w.grownBy w' v.ownBlock) : RdB w' A xs := by
  rcases h with h | ⟨b, C, rfl, hB, hC⟩
  · exact .inl h
  · refine .inr ⟨b, C, rfl, hB.grown hg fun hb => ?_, hC⟩
    obtain ⟨D, hD⟩ := own_blk ho hb
    exact ht (hD.type hB)
theorem own_rdb {w : World} {B n : Nat} {A : Option Addr} {c : Nat} {xs : List Int} (h : w.ownsRow B 3 1 (.slice A n c) n (xs.map (Value.int .i64))) : RdB w A xs := by
  obtain ⟨hl, hx⟩ := h
  rcases hx with ⟨h0, h1⟩ | ⟨g', cap', cur, h0, _, hg, hnc, hm, hc, ht⟩
  · left
    exact List.length_eq_zero_iff.1 (by simpa [h1] using hl)
  · cases h0
    refine .inr ⟨g', cur, rfl, hg, fun k x hx => ?_⟩
    have h1 : (xs.map (Value.int .i64))[k]? = some (.int .i64 x) := by rw [List.getElem?_map, hx]; rfl
    have hlt : k < n * 1 := by rw [← hl]; exact (List.getElem?_eq_some_iff.1 h1).1
    rw [← ht, List.getElem?_take, if_pos hlt] at h1
    simpa using h1
def ClonR (xs : List Int) (n : Nat) (w : World) (e : Ending) (w' : World) : Prop := ∃ A c, e = .returned (.slice A n c) ∧ Ext [] w w' ∧ RdB w' A xs
set_option maxRecDepth 100000 in
theorem cloneAll_any (b o n cap : Nat) (xs : List Int) (w : World) (h : NumsAt w b o xs) (hx : xs.length = n) (hl : n ≤ 10000000) :
    Calls Tryz.prog 33 #[.slice (some ⟨b, o, none⟩) n cap] w (ClonR xs n w) := by
  by_cases h0 : n = 0
  · subst h0
    have hxs : xs = [] := List.length_eq_zero_iff.1 hx
    subst hxs
    obtain ⟨i0, hi0, hz0, hz1, hz2⟩ := intInfo
    have heq : ∀ W : World, (binOp .eql 22 (.slice (some ⟨b, o, none⟩) 0 cap) (.slice none 0 0)).run Tryz.prog W = .ok (.bool false) W := fun W => Go.Lib.run_eql_slice_nil (P := Tryz.prog) (w := W) (h := Tryz.underlying22) ..
    have hB : Blk (w.alloc (.cells #[] 3)) w.heap.size 3 #[] := Blk.new _ _ _
    obtain ⟨w2, hr, hE⟩ : ∃ w2, (∀ ty, (Builtin.append_ #[22, 22] ty #[.slice (some ⟨w.heap.size, 0, none⟩) 0 0, .slice (some ⟨b, o, none⟩) 0 cap]).run Tryz.prog (w.alloc (.cells #[] 3)) = .ok (.slice (some ⟨w.heap.size, 0, none⟩) 0 0) w2) ∧ Ext [w.heap.size] (w.alloc (.cells #[] 3)) w2 :=
      ⟨_, fun ty => run_append_room (P := Tryz.prog) _ 22 ty 3 i0 Tryz.underlying22 hi0 w.heap.size 0 0 _ hB ⟨b, o, none⟩ 0 cap [] (by simp) (by simp) (by simp) (by omega) (by simp),
        ⟨rfl, rfl, rfl, by simp [World.setRow], fun i _ hi => setRow_other _ _ i _ (by simpa using hi)⟩⟩
    have HE : Hd (Ext [] w w2) := hd (((Ext.refl [] w).alloc _).step hE (fun x hx => .inr (by rw [List.mem_singleton.1 hx]; exact Nat.le_refl _)))
    clear hE hB h
    go_enter Tryz.func33, Tryz.ntmps33
    go_wp2_with (at_builtin; refine Lib.wpList_append_run _ rfl _ _ _ _ rfl _ _ rfl rfl _ _ (hr _) ?_)
    go_ret
    exact ⟨_, _, rfl, HE.out, .inl rfl⟩
  · subst hx
    refine (copy_any b o cap xs w h (by omega) (by omega)).mono ?_
    rintro e w' ⟨g, c, rfl, hE, hO, hg, hg2⟩
    exact ⟨_, c, rfl, hE, own_rdb hO⟩
/-- The sums of the words at one place: k lists. -/
def sumF (L : List Pt) : Nat → Nat → Int
  | 0, _ => 0
  | k + 1, i => w32 (sumF L k i + ((L[k]?.bind fun x => x.xs[i]?).getD 0))
theorem sumF_bd (L : List Pt) (k i : Nat) : -2147483648 ≤ sumF L k i ∧ sumF L k i ≤ 2147483647 := by
  cases k with
  | zero => simp [sumF]
  | succ k => exact w32_bd _
theorem sumF_succ {L : List Pt} {k : Nat} {A : Option Addr} {c : Nat} {xs : List Int} (h : L[k]? = some ⟨A, c, xs⟩) {i : Nat} {x : Int} (hx : xs[i]? = some x) : sumF L (k + 1) i = w32 (sumF L k i + x) := by
  simp only [sumF, h, Option.bind_some, hx, Option.getD_some]
/-- The sums. -/
def sumR (L : List Pt) : List Int := (List.range (len0 L)).map (sumF L L.length)
theorem sumR_len (L : List Pt) : (sumR L).length = len0 L := by simp [sumR]
theorem sumR_at {L : List Pt} {i : Nat} {x : Int} (h : (sumR L)[i]? = some x) : i < len0 L ∧ x = sumF L L.length i := by
  obtain ⟨h1, h2⟩ := List.getElem?_eq_some_iff.1 h
  rw [sumR_len] at h1
  refine ⟨h1, ?_⟩
  rw [← h2]
  simp [sumR]
theorem upw_rd {w : World} {b n : Nat} {L : List Pt} {t : TypeId} (h : UpW w b t n fun i => .int .i64 (sumF L L.length i)) (hn : len0 L = n) : NumsAt w b 0 (sumR L) := fun i x hx => by
  obtain ⟨h1, rfl⟩ := sumR_at hx
  rw [Nat.zero_add]
  exact h.cell (by omega)
theorem upw_zero (w : World) (L : List Pt) (n : Nat) : UpW (w.alloc (.cells (Nums (List.replicate n 0)) 3)) w.heap.size 3 n fun i => .int .i64 (sumF L 0 i) :=
  ⟨_, Blk.new _ _ _, fun i hi => by simp [Nums, sumF, hi]⟩
end Go.Proofs.YtgbjlccgnfcnaaaGreat
