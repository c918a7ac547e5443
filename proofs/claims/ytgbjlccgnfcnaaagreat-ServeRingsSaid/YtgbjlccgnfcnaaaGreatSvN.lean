/- The open requests of a server that has one request, or none (the walk). -/
import Derived.Test.YtgbjlccgnfcnaaaGreatSvM
namespace Go.Proofs.YtgbjlccgnfcnaaaGreat
open Go.RowKit
set_option linter.unusedSimpArgs false
set_option linter.unusedVariables false

theorem insertion_any (n cap : Nat) (N : Int) (A : Option Addr) (f : Value) (hn0 : 0 ≤ N) (hn : N ≤ 1) (w : World) :
    Calls Tryz.prog 94 #[.slice A n cap, .int .i64 0, .int .i64 N, f] w fun e w' => e = .returned (.tuple #[]) ∧ w = w' := by
  go_enter Tryz.func94, Tryz.ntmps94
  go_wp2
  go_loop [8] (fun i => i = .int .i64 1) (fun i => 0)
  case atStart => rfl
  case round =>
    subst hrel
    have h1 : ¬(1 < N) := by omega
    go_wp2
    exact bodyPost_end (results_none rfl _ _ _) rfl ⟨rfl, rfl⟩
theorem pdq_any (n cap : Nat) (N : Int) (A : Option Addr) (f : Value) (k : Int) (hn0 : 0 ≤ N) (hn : N ≤ 1) (w : World) :
    Calls Tryz.prog 80 #[.slice A n cap, .int .i64 0, .int .i64 N, .int .i64 k, f] w fun e w' => e = .returned (.tuple #[]) ∧ w = w' := by
  go_enter Tryz.func80, Tryz.ntmps80
  go_wp2
  go_loop [1, 2, 3, 10, 11] (fun a b l x y => a = .int .i64 0 ∧ b = .int .i64 N) (fun _ _ _ _ _ => 0)
  case atStart => exact ⟨rfl, rfl⟩
  case round =>
    obtain ⟨rfl, rfl⟩ := hrel
    go_wp2_with fail
    refine (insertion_any n cap N A f hn0 hn w).mono ?_
    rintro e w' ⟨rfl, rfl⟩
    go_wp2
    exact bodyPost_ret (results_none rfl _ _ _) rfl ⟨rfl, rfl⟩
set_option maxRecDepth 100000 in
theorem len0_any (w : World) : Calls Tryz.prog 81 #[.int .u64 0] w fun e w' => (∃ k : Int, e = .returned (.int .i64 k)) ∧ w = w' := by
  go_enter Tryz.func81, Tryz.ntmps81
  go_wp2
  go_ret
  exact ⟨⟨_, rfl⟩, rfl⟩
set_option maxRecDepth 100000 in
theorem len1_any (w : World) : Calls Tryz.prog 81 #[.int .u64 1] w fun e w' => (∃ k : Int, e = .returned (.int .i64 k)) ∧ w = w' := by
  go_enter Tryz.func81, Tryz.ntmps81
  go_wp2
  go_ret
  exact ⟨⟨_, rfl⟩, rfl⟩
/-- A list of at most one element is sorted: nothing turns. -/
theorem sort_any (n cap : Nat) (A : Option Addr) (f : Value) (hn : n ≤ 1) (w : World) :
    Calls Tryz.prog 66 #[.slice A n cap, f] w fun e w' => e = .returned (.tuple #[]) ∧ w = w' := by
  have hn' : n = 0 ∨ n = 1 := by omega
  have HP := hd (fun m N k h0 hm => pdq_any m cap N A f k h0 hm w)
  have HL0 := hd len0_any
  have HL1 := hd len1_any
  clear hn
  rcases hn' with rfl | rfl
  · go_enter Tryz.func66, Tryz.ntmps66
    go_wp2_with fail
    refine (HL0.o _).mono ?_
    rintro e w' ⟨⟨k, rfl⟩, rfl⟩
    go_wp2_with fail
    refine (HP.o _ _ _ (by omega) (by omega)).mono ?_
    rintro e w' ⟨rfl, rfl⟩
    go_wp2_with fail
    exact bodyPost_end (results_none rfl _ _ _) rfl ⟨rfl, rfl⟩
  · go_enter Tryz.func66, Tryz.ntmps66
    go_wp2_with fail
    refine (HL1.o _).mono ?_
    rintro e w' ⟨⟨k, rfl⟩, rfl⟩
    go_wp2_with fail
    refine (HP.o _ _ _ (by omega) (by omega)).mono ?_
    rintro e w' ⟨rfl, rfl⟩
    go_wp2_with fail
    exact bodyPost_end (results_none rfl _ _ _) rfl ⟨rfl, rfl⟩
theorem TMap.empty {w : World} {b : Nat} (h : w.heap[b]? = some (.map #[] 0)) : TMap w b (fun _ => none) := by
  obtain ⟨D, ⟨es, clock, h1, h2⟩, h3⟩ := TMap.made w
  have h4 : (w.alloc (.map #[] 0)).heap[w.heap.size]? = some (.map #[] 0) := by
    show (w.heap.push _)[w.heap.size]? = _
    simp
  rw [h4] at h1
  cases h1
  exact ⟨D, ⟨#[], 0, h, h2⟩, h3⟩
/-- One request, 3, in block r. -/
def f1 (r : Nat) (q : Int) : Option Value := if q = 3 then some (.pointer (some ⟨r, 0, none⟩)) else none
theorem reqInfo : ∃ i0 : TypeInfo, (Tryz.prog).info? 74 = some i0 ∧ i0.zero = some (.pointer none) ∧ i0.size = 1 ∧ i0.bytes = 8 :=
  info_parts (show ((Tryz.prog).info? 74).map (fun i => (i.zero, i.size, i.bytes)) = some (some (.pointer none), 1, 8) by kernel_rfl)
theorem ranges_ext {P : Program} {k : TypeId} {H : Type} {E : Value → Option (DataW H × List MemPlace)} {b r n : Nat} {D : DataW H} {left : Lit → Bool} {cnt : Nat} {T : List Nat} {w w' : World} (h : w.ranges P k E b r n D left cnt) (hE : Ext T w w') (hb : b ∉ T) (hr : r ∉ T) : w'.ranges P k E b r n D left cnt := by
  have h1 := h.owns.lt
  have h2 := h.lt
  obtain ⟨es, clock, since, seen, c0, a1, a2, a3, a4, a5, a6⟩ := h
  exact ⟨es, clock, since, seen, c0, (hE.block b h1 hb).trans a1, a2, a3, a4, (hE.block r h2 hr).trans a5, a6⟩
/-- The open requests: that one. -/
def OpenP (r : Nat) (w : World) (e : Ending) (w' : World) : Prop := ∃ g cap, e = .returned (.slice (some ⟨g, 0, none⟩) 1 cap) ∧ w'.cell? ⟨g, 0, none⟩ = some (.pointer (some ⟨r, 0, none⟩)) ∧ Ext [] w w' ∧ g < w'.heap.size ∧ 1 ≤ cap
set_option maxHeartbeats 4000000 in
set_option maxRecDepth 100000 in
theorem open1_any (s mb r : Nat) (w : World) (hm : TMap w mb (f1 r)) (hs : w.cell? ⟨s, 17, none⟩ = some (.map (some mb))) (hr : w.cell? ⟨r, 9, none⟩ = some (.bool false)) (hs0 : ∃ v, w.cell? ⟨s, 0, none⟩ = some v) :
    Calls Tryz.prog 40 #[.pointer (some ⟨s, 0, none⟩)] w (OpenP r w) := by
  obtain ⟨i0, hi0, hz0, hz1, hz2⟩ := reqInfo
  have HR := hd hr
  have hrl := World.block_lt_of_cell? w _ hr
  have hsl := World.block_lt_of_cell? w _ hs
  simp only at hrl hsl
  obtain ⟨D, hD1, hD2, hD3, hD4⟩ := hm
  have HD3 := hd hD3
  have HD4 := hd hD4
  clear hr hD2 hD3 hD4 hs0
  go_enter Tryz.func40, Tryz.ntmps40
  go_wp2_with (
    at_range; refine wpList_range_own _ rfl _ 67 rfl 3 74 keyI Tryz.underlying67 _ mb 4 D rfl hD1 ?_
    intro w3 hrg3 hg3 hs3
    have HE3 := hd ((Ext.refl [] w).grown hg3 (fun q hq => by cases hq))
    have HRG3 := hd hrg3
    clear hg3 hs3 hrg3)
  clear hD1 hs hsl
  go_frame
  obtain ⟨rb, hrb⟩ : ∃ rb, rb = w.heap.size := ⟨_, rfl⟩
  have hrbw : w.heap.size ≤ rb := by rw [hrb]; exact Nat.le_refl _
  rw [← hrb] at HRG3 ⊢
  clear hrb
  have hrs0 : w3.ranges Tryz.prog 3 selfE mb rb 4 D (Maps.has D) (Maps.size D) := HRG3.out
  clear HRG3
  go_loopw [3] (fun v wr => ∃ (left : Lit → Bool) (cnt : Nat), wr.ranges Tryz.prog 3 selfE mb rb 4 D left cnt ∧ Hd (Ext [] w wr) ∧ ((v = .slice none 0 0 ∧ Hd (left = Maps.has D)) ∨ (∃ g cap, v = .slice (some ⟨g, 0, none⟩) 1 cap ∧ Hd (wr.cell? ⟨g, 0, none⟩ = some (.pointer (some ⟨r, 0, none⟩))) ∧ g < wr.heap.size ∧ g ≠ rb ∧ 1 ≤ cap ∧ Hd (left (.int .i64 3) = false ∧ ∀ x, left (.int .i64 x) = true → Maps.has D (.int .i64 x) = true)))) (fun _ wr => wr.rangeLeft mb rb)
  case atStart => exact ⟨_, _, hrs0, HE3, .inl ⟨rfl, hd rfl⟩⟩
  case round =>
    obtain ⟨left, cnt, hrg, HEr, hv⟩ := hrel
    clear hrs0 HE3
    rename World => wk
    have HRG := hd hrg
    rcases hv with ⟨rfl, HL⟩ | ⟨g, cap, rfl, HC, hgl, hgr, hcap, HL⟩
    · go_wp2_with (at_next; refine wpList_next_ranges _ rfl _ rfl 3 keyI selfE (Value.int .i64) (fun v : Value => v) (fun key kl hk => by obtain ⟨x, hx, _⟩ := Maps.keyOf_int_inv Tryz.underlying3 hk; exact ⟨x, hx⟩) (fun v y hv => ⟨v, rfl⟩) mb rb 4 D left cnt rfl hrg ?_ ?_)
      · intro hc0 hl0
        exfalso
        have h1 := hl0 (.int .i64 3)
        rw [HL.o, HD3.o] at h1
        exact absurd h1 (by simp [f1])
      · intro x c kl y1 y2 w2 cnt2 hkey hlk hv hat hrg2 hlt hg2 hs2 hen
        obtain ⟨x', ex, rfl, hwx⟩ := Maps.keyOf_int_inv Tryz.underlying3 hkey
        cases ex
        cases hv
        rw [HL.o, HD3.o] at hlk
        have hx3 : x = 3 := by
          unfold f1 at hlk
          split at hlk
          · assumption
          · cases hlk
        subst hx3
        have hct : c = .pointer (some ⟨r, 0, none⟩) := by
          have h1 := HD4.o 3 (.pointer (some ⟨r, 0, none⟩)) (by simp [f1]) (.lit (.int .i64 0))
          rw [hat] at h1
          cases h1; rfl
        subst hct
        have HEg := hd (HEr.out.grown hg2 (fun q hq => .inr (by cases hq; exact hrbw)))
        have HRG2 := hd hrg2
        have HLT := hd hlt
        have hr9 := HEg.o.held HR.o (by simp)
        have hrl2 : r < w2.heap.size := Nat.lt_of_lt_of_le hrl HEg.o.size
        have hrb2 : rb < w2.heap.size := hrg2.lt
        clear hkey hlk hat hrg2 hlt hg2 hs2 hwx hrg
        have HU := hd (Blk.new w2 74 #[.pointer (some ⟨r, 0, none⟩)])
        have HEA := hd ((Ext.refl [] w2).alloc (.cells #[.pointer (some ⟨r, 0, none⟩)] 74))
        go_wp2_with (
          refine wpList_append_lies _ rfl _ _ 78 rfl w2.heap.size 74 i0 _ 1 8 Tryz.underlying78 hi0 hz0 hz1 hz2 rfl (by decide) (.slice none 0 0) 0 [] rfl ⟨rfl, .inl ⟨rfl, rfl⟩⟩ ⟨w2.heap.size, 0, none⟩ 1 1 [.pointer (some ⟨r, 0, none⟩)] rfl rfl ?c1 ?c2 (by omega) ?c3 ?c4 ?c5 _ rfl ?_
          case c1 => exact cell_one_new _ _ _
          case c2 => intro u hu; rw [List.mem_singleton.1 hu]; rfl
          case c3 => unfold maxLen; omega
          case c4 => omega
          case c5 => simp
          intro g8 c8 w8 ho8 hg8 hi8 ha8
          have HO8 := hd ho8
          have HE8 := hd (HEA.o.grown hg8 (fun q hq => by cases hq))
          clear ho8 hg8 hi8)
        go_roundw
        case rel =>
          obtain ⟨A8, cc8, hv8, hcc8, _⟩ := own_form HO8.o
          cases hv8
          refine ⟨_, cnt2, ranges_ext HRG2.o HE8.o (by simp) (by simp), hd (HEg.o.trans HE8.o), .inr ⟨g8, _, rfl, hd (row_cells HO8.o 0 _ rfl), ha8, ?_, by omega, hd ⟨by simp [Lit.sameKey], fun x hx => ?_⟩⟩⟩
          · have := own_base HO8.o g8 rfl
            omega
          · simp only [Bool.and_eq_true] at hx
            rw [← HL.o]
            exact hx.1
        case measure => rw [(ranges_ext HRG2.out HE8.out (by simp) (by simp)).left_eq, HRG.out.left_eq]; exact HLT.out
    · go_wp2_with (at_next; refine wpList_next_ranges _ rfl _ rfl 3 keyI selfE (Value.int .i64) (fun v : Value => v) (fun key kl hk => by obtain ⟨x, hx, _⟩ := Maps.keyOf_int_inv Tryz.underlying3 hk; exact ⟨x, hx⟩) (fun v y hv => ⟨v, rfl⟩) mb rb 4 D left cnt rfl hrg ?_ ?_)
      · intro hc0 hl0
        clear hrg HRG hl0 hc0
        go_wp2_with fail
        refine (sort_any 1 cap _ _ (by omega) wk).mono ?_
        rintro e w5 ⟨rfl, rfl⟩
        go_wp2_with fail
        go_ret
        exact ⟨g, cap, rfl, HC.o, HEr.o, hgl, hcap⟩
      · intro x c kl y1 y2 w2 cnt2 hkey hlk hv hat hrg2 hlt hg2 hs2 hen
        exfalso
        obtain ⟨x', ex, rfl, hwx⟩ := Maps.keyOf_int_inv Tryz.underlying3 hkey
        cases ex
        have h1 := HL.o.2 x hlk
        rw [HD3.o] at h1
        have hx3 : x = 3 := by
          unfold f1 at h1
          split at h1
          · assumption
          · cases h1
        subst hx3
        rw [HL.o.1] at hlk
        cases hlk
set_option maxHeartbeats 4000000 in
set_option maxRecDepth 100000 in
theorem open0_any (s mb : Nat) (w : World) (hm : TMap w mb (fun _ => none)) (hs : w.cell? ⟨s, 17, none⟩ = some (.map (some mb))) :
    Calls Tryz.prog 40 #[.pointer (some ⟨s, 0, none⟩)] w fun e w' => e = .returned (.slice none 0 0) ∧ Ext [] w w' := by
  have hsl := World.block_lt_of_cell? w _ hs
  simp only at hsl
  obtain ⟨D, hD1, hD2, hD3, hD4⟩ := hm
  have HD3 := hd hD3
  clear hD2 hD3 hD4
  go_enter Tryz.func40, Tryz.ntmps40
  go_wp2_with (
    at_range; refine wpList_range_own _ rfl _ 67 rfl 3 74 keyI Tryz.underlying67 _ mb 4 D rfl hD1 ?_
    intro w3 hrg3 hg3 hs3
    have HE3 := hd ((Ext.refl [] w).grown hg3 (fun q hq => by cases hq))
    have HRG3 := hd hrg3
    clear hg3 hs3 hrg3)
  clear hD1 hs hsl
  try go_frame
  obtain ⟨rb, hrb⟩ : ∃ rb, rb = w.heap.size := ⟨_, rfl⟩
  rw [← hrb] at HRG3 ⊢
  clear hrb
  have hrs0 : w3.ranges Tryz.prog 3 selfE mb rb 4 D (Maps.has D) (Maps.size D) := HRG3.out
  clear HRG3
  go_loopw [3] (fun v wr => ∃ (cnt : Nat), wr.ranges Tryz.prog 3 selfE mb rb 4 D (Maps.has D) cnt ∧ Hd (Ext [] w wr) ∧ v = .slice none 0 0) (fun _ wr => wr.rangeLeft mb rb)
  case atStart => exact ⟨_, hrs0, HE3, rfl⟩
  case round =>
    obtain ⟨cnt, hrg, HEr, rfl⟩ := hrel
    clear hrs0 HE3
    rename World => wk
    go_wp2_with (at_next; refine wpList_next_ranges _ rfl _ rfl 3 keyI selfE (Value.int .i64) (fun v : Value => v) (fun key kl hk => by obtain ⟨x, hx, _⟩ := Maps.keyOf_int_inv Tryz.underlying3 hk; exact ⟨x, hx⟩) (fun v y hv => ⟨v, rfl⟩) mb rb 4 D (Maps.has D) cnt rfl hrg ?_ ?_)
    · intro hc0 hl0
      clear hrg hl0 hc0
      go_wp2_with fail
      refine (sort_any 0 0 _ _ (by omega) wk).mono ?_
      rintro e w5 ⟨rfl, rfl⟩
      go_wp2_with fail
      go_ret
      exact ⟨rfl, HEr.o⟩
    · intro x c kl y1 y2 w2 cnt2 hkey hlk hv hat hrg2 hlt hg2 hs2 hen
      exfalso
      obtain ⟨x', ex, rfl, hwx⟩ := Maps.keyOf_int_inv Tryz.underlying3 hkey
      cases ex
      rw [HD3.o] at hlk
      cases hlk
end Go.Proofs.YtgbjlccgnfcnaaaGreat
