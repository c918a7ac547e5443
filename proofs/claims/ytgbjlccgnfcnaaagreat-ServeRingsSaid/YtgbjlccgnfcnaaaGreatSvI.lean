/- A model's bytes (the walk). -/
import Derived.Test.YtgbjlccgnfcnaaaGreatSvH
import Derived.BigRegion
namespace Go.Proofs.YtgbjlccgnfcnaaaGreat
open Go.RowKit
set_option linter.unusedSimpArgs false
set_option linter.unusedVariables false

theorem Kp.isL {base b n : Nat} {G : List Nat} {lo hi : Int} {w w' : World} (h : Kp base G w w') (hI : IsL w b n lo hi) (hb : b < base) (hG : b ∉ G) : IsL w' b n lo hi := by
  obtain ⟨xs, h1, h2, h3, h4⟩ := hI
  refine ⟨xs, fun k x hx => ?_, h2, h3, Nat.lt_of_lt_of_le h4 h.size⟩
  exact (World.cell?_of_block (h.block b h4 hG (fun hbk => by omega))).trans (h1 k x hx)
set_option maxHeartbeats 1000000 in
set_option maxRecDepth 100000 in
theorem list_any (base g m b n cap : Nat) (w : World) (h : WrIn w base g m) (hI : IsL w b n (-128) 1000) (hm : m ≤ 10000) (hn : n ≤ 1000) (hb : base ≤ w.heap.size) (hbb : b < base) (hbg : b ≠ g) :
    Calls Tryz.prog 93 #[.pointer (some ⟨g, 0, none⟩), .slice (some ⟨b, 0, none⟩) n cap, .func (.func 91) #[.pointer (some ⟨g, 0, none⟩)] #[]] w (NumP base g (m + 2 + 2 * n) w) := by
  have HW := hd h
  have HI := hd hI
  clear h hI
  go_enter Tryz.func93, Tryz.ntmps93
  go_wp2_with fail
  refine (number_any base g m n (by omega) w HW.o (by omega) hb).mono ?_
  rintro e w1 ⟨rfl, hW1, hK1⟩
  have HW1 := hd hW1
  have HK1 := hd hK1
  clear hW1 hK1
  go_wp2_with fail
  go_loopw [14] (fun i wr => ∃ k : Nat, i = .int .i64 k ∧ k ≤ n ∧ Hd (WrIn wr base g (m + 2 + 2 * k)) ∧ Hd (Kp base [g] w wr)) (fun i _ => (n - intOf i).toNat)
  case atStart => exact ⟨0, rfl, Nat.zero_le _, HW1, HK1⟩
  case round =>
    obtain ⟨k, rfl, hk, HW2, HK2⟩ := hrel
    rename World => wq
    by_cases hlt : k < n
    · have hI2 := HK2.o.isL HI.o hbb (by simpa using hbg)
      obtain ⟨x, hx, hx0, hx1⟩ : ∃ x : Int, wq.cell? ⟨b, k, none⟩ = some (.int .i64 x) ∧ -1000 ≤ x ∧ x ≤ 1000 := by
        obtain ⟨xs, a1, a2, a3, a4⟩ := hI2
        have hk2 : k < xs.length := by omega
        have := a1 k _ (List.getElem?_eq_getElem hk2)
        rw [Nat.zero_add] at this
        have h9 := a3 _ (List.getElem_mem hk2)
        exact ⟨_, this, by omega, by omega⟩
      have hl := hI2.lt
      have hwz := HK2.o.size
      clear hI2
      go_wp2_with fail
      refine (number_any base g (m + 2 + 2 * k) x (by omega) wq HW2.o (by omega) (by omega)).mono ?_
      rintro e w3 ⟨rfl, hW3, hK3⟩
      have HW3 := hd hW3
      have HK3 := hd (HK2.o.trans hK3)
      clear hW3 hK3
      go_wp2_with fail
      go_roundw
      case rel => exact ⟨k + 1, by go_num, by omega, HW3, HK3⟩
      case measure => simp [intOf]; omega
    · have hkn : k = n := by omega
      subst hkn
      go_wp2_with fail
      refine bodyPost_ret (results_none rfl _ _ _) rfl ?_
      exact ⟨rfl, HW2.o, HK2.o⟩
/-- The pointers to a model's lists. -/
def ptrs (g : Nat) : Array Value := #[.pointer (some ⟨g, 4, none⟩), .pointer (some ⟨g, 5, none⟩), .pointer (some ⟨g, 6, none⟩), .pointer (some ⟨g, 7, none⟩), .pointer (some ⟨g, 8, none⟩), .pointer (some ⟨g, 9, none⟩), .pointer (some ⟨g, 10, none⟩)]
set_option maxHeartbeats 1000000 in
set_option maxRecDepth 100000 in
theorem lists_any (g : Nat) (w : World) (hg : g < w.heap.size) (hc : ∀ i, i < 11 → ∃ v, w.cell? ⟨g, i, none⟩ = some v) : Calls Tryz.prog 92 #[.pointer (some ⟨g, 0, none⟩)] w fun e w' => ∃ b, e = .returned (.slice (some ⟨b, 0, none⟩) 7 7) ∧ Blk w' b 64 (ptrs g) ∧ Ext [] w w' ∧ w.heap.size ≤ b := by
  obtain ⟨v0, c0⟩ := hc 0 (by omega)
  clear hc
  go_enter Tryz.func92, Tryz.ntmps92
  go_wp2_with fail
  go_region
  go_wp2_with fail
  go_ret
  exact ⟨_, rfl, (Blk.new _ _ _).drew, ((Ext.refl _ _).alloc _).drew, Nat.le_refl _⟩
end Go.Proofs.YtgbjlccgnfcnaaaGreat
