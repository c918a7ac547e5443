/- slices.Equal of equal code, Encoded, Encode: the walks. -/
import Derived.Test.YtedabpldigcffaaCodB
import Derived.Test.YtedabpldigcffaaCodeB
namespace Go.Proofs.Ytedabpldigcffaa
open Go.RowKit
set_option linter.unusedSimpArgs false
set_option linter.unusedVariables false

set_option maxHeartbeats 1000000 in
set_option maxRecDepth 100000 in
theorem equal_code (A B : Option Addr) (ca cb n : Nat) (xs : List Ins) (w : World) (hA : RdC w A xs) (hB : RdC w B xs) (hl : n ≤ 1000000) (hx : xs.length = n) :
    Calls Try.prog 34 #[.slice A n ca, .slice B n cb] w fun e w' => e = .returned (.bool true) ∧ Ext [] w w' := by
  have HA := hd hA
  have HB := hd hB
  have HLX := hd hx
  clear hA hB hx
  go_enter Try.func34, Try.ntmps34
  go_wp2_with fail
  go_loopw [13] (fun i wr => ∃ k : Nat, i = .int .i64 k ∧ k ≤ n ∧ Ext [] w wr) (fun i _ => (n - intOf i).toNat)
  case atStart => exact ⟨0, rfl, Nat.zero_le _, Ext.refl _ _⟩
  case round =>
    obtain ⟨k, rfl, hk, hE⟩ := hrel
    have HE := hd hE
    by_cases hlt : k < n
    · obtain ⟨x, hx⟩ : ∃ x, xs[k]? = some x := ⟨_, List.getElem?_eq_getElem (l := xs) (i := k) (by have := HLX.out; omega)⟩
      obtain ⟨b, o, rfl, hb, hcx⟩ := (HA.out.ext hE (by simp)).at hx
      obtain ⟨b2, o2, rfl, hb2, hcy⟩ := (HB.out.ext hE (by simp)).at hx
      have h0 := hcx 0 _ rfl
      have h1 := hcx 1 _ rfl
      have h2 := hcx 2 _ rfl
      have h3 := hcx 3 _ rfl
      have h4 := hcx 4 _ rfl
      have h5 := hcx 5 _ rfl
      have h6 := hcx 6 _ rfl
      have h7 := hcx 7 _ rfl
      have h8 := hcx 8 _ rfl
      have j0 := hcy 0 _ rfl
      have j1 := hcy 1 _ rfl
      have j2 := hcy 2 _ rfl
      have j3 := hcy 3 _ rfl
      have j4 := hcy 4 _ rfl
      have j5 := hcy 5 _ rfl
      have j6 := hcy 6 _ rfl
      have j7 := hcy 7 _ rfl
      have j8 := hcy 8 _ rfl
      simp only [Nat.add_zero] at h0 j0
      clear hcx hcy hx hE
      go_wp2_with fail
      go_quiet (fail)
      go_wp2_with fail
      go_roundw
      case rel => exact ⟨k + 1, by go_num, by omega, HE.out.drewN _⟩
      case measure => simp [intOf]; omega
    · clear hE
      go_wp2_with fail
      go_ret
      exact ⟨rfl, HE.out⟩
/-- The words of code, in a row of the call's own. -/
def EncdP (xs : List Ins) (w : World) (e : Ending) (w' : World) : Prop :=
  ∃ v, e = .returned v ∧ w'.ownsRow w.heap.size 3 1 v (4 * xs.length) ((encS xs).map (.int .i64)) ∧ Ext [] w w'
theorem encS_take_all (xs : List Ins) (k : Nat) (h : xs.length ≤ k) : encS (xs.take k) = encS xs := by rw [List.take_of_length_le h]

set_option maxHeartbeats 1000000 in
set_option maxRecDepth 100000 in
theorem encoded_any (A : Option Addr) (cap n : Nat) (xs : List Ins) (w : World) (h : RdC w A xs) (hx : xs.length = n) (hl : n ≤ 1000000) :
    Calls Try.prog 29 #[.slice A n cap] w (EncdP xs w) := by
  obtain ⟨i0, hi0, hz0, hz1, hz2⟩ := info_parts (show ((Try.prog).info? 3).map (fun i => (i.zero, i.size, i.bytes)) = some (some (.int .i64 0), 1, 8) by kernel_rfl)
  have HA := hd h
  have HL := hd hx
  clear h hx
  go_enter Try.func29, Try.ntmps29
  go_wp2_with fail
  go_loopw [3, 8] (fun v i wr => ∃ k : Nat, i = .int .i64 k ∧ k ≤ n ∧ Ext [] w wr ∧ Hd (wr.ownsRow w.heap.size 3 1 v (4 * k) ((encS (xs.take k)).map (.int .i64)))) (fun _ i _ => (n - intOf i).toNat)
  case atStart => exact ⟨0, rfl, Nat.zero_le _, Ext.refl _ _, hd ⟨rfl, .inl ⟨rfl, rfl⟩⟩⟩
  case round =>
    obtain ⟨k, rfl, hk, hE, HO⟩ := hrel
    have HE := hd hE
    by_cases hlt : k < n
    · obtain ⟨x, hx⟩ : ∃ x, xs[k]? = some x := ⟨_, List.getElem?_eq_getElem (l := xs) (i := k) (by have := HL.out; omega)⟩
      obtain ⟨b, o, rfl, hb, hcx⟩ := (HA.out.ext hE (by simp)).at hx
      have h0 := hcx 0 _ rfl
      have h1 := hcx 1 _ rfl
      have h2 := hcx 2 _ rfl
      have h3 := hcx 3 _ rfl
      have h4 := hcx 4 _ rfl
      have h5 := hcx 5 _ rfl
      have h6 := hcx 6 _ rfl
      have h7 := hcx 7 _ rfl
      have h8 := hcx 8 _ rfl
      simp only [Nat.add_zero] at h0
      have HX : Hd ((encS (xs.take (k + 1))) = encS (xs.take k) ++ wordsS x) := hd (encS_take xs k x hx)
      clear hcx hx hE
      go_wp2_with (
        refine wpList_append_lies _ rfl _ _ 22 rfl w.heap.size 3 i0 _ 1 8 Try.underlying22 hi0 hz0 hz1 hz2 rfl (by decide) _ (4 * k) ((encS (xs.take k)).map (.int .i64)) rfl (own_ext HO.out (((Ext.refl [] _).alloc _).alloc _) (by simp)) ⟨wr.heap.size + 1, 0, none⟩ 4 4 ((wordsS x).map (.int .i64)) rfl rfl ?c1 ?c2 (by decide) ?c3 ?c4 ?c5 _ rfl ?_
        case c1 => exact World.news_of_block (Blk.new' _ _ _ _ (by simp))
        case c2 => intro u hu; obtain ⟨y, _, rfl⟩ := List.mem_map.1 hu; rfl
        case c3 => unfold maxLen; omega
        case c4 => omega
        case c5 => have := HE.out.size; simp; omega
        intro g2 cap2 w2 ho hg ha hlt2
        have HO2 : Hd (w2.ownsRow w.heap.size 3 1 (.slice (some ⟨g2, 0, none⟩) (4 * k + 4) cap2) (4 * (k + 1)) ((encS (xs.take (k + 1))).map (.int .i64))) := hd (by rw [HX.out, List.map_append, show 4 * (k + 1) = 4 * k + 4 by omega]; exact ho)
        have HE2 : Hd (Ext [] w w2) := hd (((HE.out.alloc _).alloc _).grown hg (fun q hq => .inr (own_base HO.out q hq)))
        clear ho hg ha hlt2)
      go_roundw
      case rel => exact ⟨k + 1, by go_num, by omega, HE2.out, HO2⟩
      case measure => simp [intOf]; omega
    · clear hE
      have hk2 : k = n := by omega
      subst hk2
      go_wp2_with fail
      go_ret
      refine ⟨_, rfl, ?_, HE.out⟩
      have := HO.out
      rw [encS_take_all xs k (by have := HL.out; omega)] at this
      rw [HL.out]
      exact this
theorem check_len (m : Mc) (A : Option Addr) (cap n : Nat) (xs : List Ins) (w : World) (h : RdC w A xs) (hx : xs.length = n) (hl : n ≤ 100000) :
    Calls Try.prog 22 #[.agg m.cells.toArray, .slice A n cap] w fun e w' => e = .returned (.int .i64 (checkS m xs)) ∧ Ext [] w w' := by
  have := check_any m A cap xs w h (by omega)
  rw [hx] at this
  exact this
/-- The words of code that is right. -/
def EncP (cv : Int) (xs : List Ins) (w : World) (e : Ending) (w' : World) : Prop :=
  ∃ v, e = .returned (.tuple #[v, .int .i64 cv]) ∧ (cv = 0 → w'.ownsRow w.heap.size 3 1 v (4 * xs.length) ((encS xs).map (.int .i64))) ∧ (cv ≠ 0 → v = .slice none 0 0) ∧ Ext [] w w'

set_option maxHeartbeats 1000000 in
set_option maxRecDepth 100000 in
theorem encode_any (m : Mc) (A : Option Addr) (cap n : Nat) (xs : List Ins) (w : World) (h : RdC w A xs) (hx : xs.length = n) (hl : n ≤ 100000) :
    Calls Try.prog 27 #[.agg m.cells.toArray, .slice A n cap] w (EncP (checkS m xs) xs w) := by
  obtain ⟨i0, hi0, hz0, hz1, hz2⟩ := info_parts (show ((Try.prog).info? 3).map (fun i => (i.zero, i.size, i.bytes)) = some (some (.int .i64 0), 1, 8) by kernel_rfl)
  have HA := hd h
  have HL := hd hx
  obtain ⟨m0, m1, m2, m3, m4⟩ := m
  have HCK := hd (fun W (hE : Ext [] w W) => check_len ⟨m0, m1, m2, m3, m4⟩ A cap n xs W (h.ext hE (by simp)) hx hl)
  obtain ⟨cv, hcv⟩ : ∃ cv, cv = checkS ⟨m0, m1, m2, m3, m4⟩ xs := ⟨_, rfl⟩
  simp only [← hcv, Mc.cells] at HCK ⊢
  clear h hx hcv
  go_enter Try.func27, Try.ntmps27
  go_wp2_with fail
  refine (HCK.out _ ((Ext.refl _ _).alloc _)).mono ?_
  rintro e w1 ⟨rfl, hE1⟩
  have HE1 := hd (((Ext.refl [] w).alloc _).trans hE1)
  clear hE1 HCK
  by_cases hc0 : cv = 0
  · subst hc0
    go_wp2_with fail
    go_loopw [7, 19] (fun v i wr => ∃ k : Nat, i = .int .i64 k ∧ k ≤ n ∧ Ext [] w wr ∧ Hd (wr.ownsRow w.heap.size 3 1 v (4 * k) ((encS (xs.take k)).map (.int .i64)))) (fun _ i _ => (n - intOf i).toNat)
    case atStart => exact ⟨0, rfl, Nat.zero_le _, HE1.out, hd ⟨rfl, .inl ⟨rfl, rfl⟩⟩⟩
    case round =>
      obtain ⟨k, rfl, hk, hE, HO⟩ := hrel
      have HE := hd hE
      by_cases hlt : k < n
      · obtain ⟨x, hx⟩ : ∃ x, xs[k]? = some x := ⟨_, List.getElem?_eq_getElem (l := xs) (i := k) (by have := HL.out; omega)⟩
        obtain ⟨b, o, rfl, hb, hcx⟩ := (HA.out.ext hE (by simp)).at hx
        have h0 := hcx 0 _ rfl
        have h1 := hcx 1 _ rfl
        have h2 := hcx 2 _ rfl
        have h3 := hcx 3 _ rfl
        have h4 := hcx 4 _ rfl
        have h5 := hcx 5 _ rfl
        have h6 := hcx 6 _ rfl
        have h7 := hcx 7 _ rfl
        have h8 := hcx 8 _ rfl
        simp only [Nat.add_zero] at h0
        have HX : Hd ((encS (xs.take (k + 1))) = encS (xs.take k) ++ wordsS x) := hd (encS_take xs k x hx)
        clear hcx hx hE
        go_wp2_with fail
        refine (words_any x _).mono ?_
        rintro e w3 ⟨rfl, hE3⟩
        have HE3 := hd (((Ext.refl [] wr).alloc _).trans hE3)
        clear hE3 h0 h1 h2 h3 h4 h5 h6 h7 h8
        have hsz : wr.heap.size ≤ w3.heap.size := HE3.out.size
        go_wp2_with (
          refine wpList_append_lies _ rfl _ _ 22 rfl w.heap.size 3 i0 _ 1 8 Try.underlying22 hi0 hz0 hz1 hz2 rfl (by decide) _ (4 * k) ((encS (xs.take k)).map (.int .i64)) rfl (own_ext HO.out (HE3.out.alloc _) (by simp)) ⟨w3.heap.size, 0, none⟩ 4 4 ((wordsS x).map (.int .i64)) rfl rfl ?c1 ?c2 (by decide) ?c3 ?c4 ?c5 _ rfl ?_
          case c1 => exact World.news_of_block (Blk.new _ _ _)
          case c2 => intro u hu; obtain ⟨y, _, rfl⟩ := List.mem_map.1 hu; rfl
          case c3 => unfold maxLen; omega
          case c4 => omega
          case c5 => have := HE.out.size; simp; omega
          intro g2 cap2 w2 ho hg ha hlt2
          have HO2 : Hd (w2.ownsRow w.heap.size 3 1 (.slice (some ⟨g2, 0, none⟩) (4 * k + 4) cap2) (4 * (k + 1)) ((encS (xs.take (k + 1))).map (.int .i64))) := hd (by rw [HX.out, List.map_append, show 4 * (k + 1) = 4 * k + 4 by omega]; exact ho)
          have HE2 : Hd (Ext [] w w2) := hd (((HE.out.trans HE3.out).alloc _).grown hg (fun q hq => .inr (own_base HO.out q hq)))
          clear ho hg ha hlt2)
        go_roundw
        case rel => exact ⟨k + 1, by go_num, by omega, HE2.out, HO2⟩
        case measure => simp [intOf]; omega
      · clear hE
        have hk2 : k = n := by omega
        subst hk2
        go_wp2_with fail
        go_ret2
        refine ⟨_, rfl, fun _ => ?_, fun h => absurd rfl h, HE.out⟩
        have := HO.out
        rw [encS_take_all xs k (by have := HL.out; omega)] at this
        rw [HL.out]
        exact this
  · have hb : (cv != 0) = true := by simpa using hc0
    have HC0 := hd hc0
    clear hc0
    go_wp2_with fail
    go_ret2
    exact ⟨_, rfl, fun h => absurd h HC0.out, fun _ => rfl, HE1.out⟩
end Go.Proofs.Ytedabpldigcffaa
