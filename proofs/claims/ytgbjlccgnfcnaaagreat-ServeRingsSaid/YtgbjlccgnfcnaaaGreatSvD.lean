/- Package models: Check, at the demo model (the walk). -/
import Derived.Test.YtgbjlccgnfcnaaaGreatSvC
import Derived.Lib.SliceRun
namespace Go.Proofs.YtgbjlccgnfcnaaaGreat
open Go.RowKit
set_option linter.unusedSimpArgs false
set_option linter.unusedVariables false

theorem allfn_any (x lo hi : Int) (g h : Nat) (w : World) (hl : w.cell? ⟨g, 0, none⟩ = some (.int .i64 lo)) (hh : w.cell? ⟨h, 0, none⟩ = some (.int .i64 hi)) (hg : g < w.heap.size) (hhs : h < w.heap.size) :
    Calls Tryz.prog 90 #[.int .i64 x, .pointer (some ⟨g, 0, none⟩), .pointer (some ⟨h, 0, none⟩)] w fun e w' => e = .returned (.bool (!inB x lo hi)) ∧ w = w' := by
  go_enter Tryz.func90, Tryz.ntmps90
  go_wp2_with fail
  refine (mwithin_any _ _ _ _).mono ?_
  rintro e w' ⟨rfl, rfl⟩
  go_wp2_with fail
  go_ret
  exact ⟨rfl, rfl⟩
set_option maxRecDepth 100000 in
theorem indexAll_any (b n cap g h : Nat) (lo hi lo' hi' : Int) (w : World) (hi0 : IsL w b n lo' hi') (h1 : lo ≤ lo') (h2 : hi' ≤ hi) (hl : w.cell? ⟨g, 0, none⟩ = some (.int .i64 lo)) (hh : w.cell? ⟨h, 0, none⟩ = some (.int .i64 hi)) (hn : n ≤ 100000) :
    Calls Tryz.prog 74 #[.slice (some ⟨b, 0, none⟩) n cap, .func (.func 90) #[] #[.pointer (some ⟨g, 0, none⟩), .pointer (some ⟨h, 0, none⟩)]] w fun e w' => e = .returned (.int .i64 (-1)) ∧ w = w' := by
  have HL := hd hi0
  have hg := World.block_lt_of_cell? w _ hl
  have hg' := World.block_lt_of_cell? w _ hh
  simp only at hg hg'
  have hb := hi0.lt
  have HG := hd hl
  have HH := hd hh
  clear hi0 hl hh
  go_enter Tryz.func74, Tryz.ntmps74
  go_wp2_with fail
  go_loop [8] (fun i => ∃ k : Nat, k ≤ n ∧ i = .int .i64 k) (fun i => n - (intOf i).toNat)
  case atStart => exact ⟨0, Nat.zero_le _, rfl⟩
  case round =>
    obtain ⟨k, hk, rfl⟩ := hrel
    by_cases hlt : k < n
    · obtain ⟨x, hx, hx0, hx1⟩ : ∃ x : Int, w.cell? ⟨b, k, none⟩ = some (.int .i64 x) ∧ lo ≤ x ∧ x ≤ hi := by
        obtain ⟨xs, a1, a2, a3, a4⟩ := HL.o
        have hk2 : k < xs.length := by omega
        have := a1 k _ (List.getElem?_eq_getElem hk2)
        rw [Nat.zero_add] at this
        have h9 := a3 _ (List.getElem_mem hk2)
        exact ⟨_, this, by omega, by omega⟩
      have HI : (!inB x lo hi) = false := by simp [inB, hx0, hx1]
      go_wp2_with fail
      refine (allfn_any x lo hi g h _ HG.o HH.o hg hg').mono ?_
      rintro e w' ⟨rfl, rfl⟩
      rw [HI]
      go_wp2_with fail
      go_round
      case rel => exact ⟨k + 1, by omega, by go_num⟩
      case measure => simp [intOf]; omega
    · go_wp2_with fail
      go_ret
      exact ⟨rfl, rfl⟩
theorem containsAll_any (b n cap g h : Nat) (lo hi lo' hi' : Int) (w : World) (hi0 : IsL w b n lo' hi') (h1 : lo ≤ lo') (h2 : hi' ≤ hi) (hl : w.cell? ⟨g, 0, none⟩ = some (.int .i64 lo)) (hh : w.cell? ⟨h, 0, none⟩ = some (.int .i64 hi)) (hn : n ≤ 100000) :
    Calls Tryz.prog 53 #[.slice (some ⟨b, 0, none⟩) n cap, .func (.func 90) #[] #[.pointer (some ⟨g, 0, none⟩), .pointer (some ⟨h, 0, none⟩)]] w fun e w' => e = .returned (.bool false) ∧ w = w' := by
  go_enter Tryz.func53, Tryz.ntmps53
  go_wp2_with fail
  refine (indexAll_any b n cap g h lo hi lo' hi' w hi0 h1 h2 hl hh hn).mono ?_
  rintro e w' ⟨rfl, rfl⟩
  go_wp2_with fail
  go_ret
  exact ⟨rfl, rfl⟩
theorem all_any (b n cap : Nat) (lo hi lo' hi' : Int) (w : World) (hi0 : IsL w b n lo' hi') (h1 : lo ≤ lo') (h2 : hi' ≤ hi) (hn : n ≤ 100000) :
    Calls Tryz.prog 78 #[.slice (some ⟨b, 0, none⟩) n cap, .int .i64 lo, .int .i64 hi] w fun e w' => e = .returned (.bool true) ∧ Ext [] w w' := by
  have HI := hd hi0
  clear hi0
  go_enter Tryz.func78, Tryz.ntmps78
  go_wp2_with fail
  refine (containsAll_any b n cap w.heap.size (w.heap.size + 1) lo hi lo' hi' _ (HI.o.ext (((Ext.refl [] w).alloc _).alloc _) (by simp)) h1 h2 (by rw [((Blk.new w 3 #[.int .i64 lo]).alloc _).cell]; rfl) (by rw [(Blk.new' (w.alloc _) 3 #[.int .i64 hi] _ (by simp)).cell]; rfl) hn).mono ?_
  rintro e w' ⟨rfl, rfl⟩
  go_wp2_with fail
  go_ret
  exact ⟨rfl, ((Ext.refl _ _).alloc _).alloc _⟩
theorem rows_any (n k q cap : Nat) (A : Option Addr) (w : World) (h : n = q * k) (hk : 0 < k) (hn : n ≤ 100000) (hkk : k ≤ 1000) :
    Calls Tryz.prog 88 #[.slice A n cap, .int .i64 k] w fun e w' => e = .returned (.int .i64 q) ∧ w = w' := by
  have h1 : ((n : Int).tmod k) = 0 := by rw [h, Int.natCast_mul]; exact Int.mul_tmod_left _ _
  have h2 : ((n : Int).tdiv k) = q := by rw [h, Int.natCast_mul]; exact Int.mul_tdiv_cancel _ (by omega)
  have h3 : (k : Int) ≠ 0 := by omega
  go_enter Tryz.func88, Tryz.ntmps88
  go_wp2_with fail
  go_ret
  exact ⟨ret_int (Int.mul_ediv_cancel _ h3), rfl⟩
end Go.Proofs.YtgbjlccgnfcnaaaGreat
