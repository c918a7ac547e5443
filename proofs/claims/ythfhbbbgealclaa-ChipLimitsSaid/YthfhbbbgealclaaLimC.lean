/- The limits of levels and of executed instructions: the walk. -/
import Derived.Test.YthfhbbbgealclaaLimB
import Derived.Test.YthfhbbbgealclaaRefI
import Derived.Test.YthfhbbbgealclaaChipK
namespace Go.Proofs.Ythfhbbbgealclaa
open Go.RowKit
set_option linter.unusedSimpArgs false
set_option linter.unusedVariables false

/-- The code so far: k instructions in a row of the call's own. -/
structure LimSt (W1 : World) (base g : Nat) (v : Value) (k : Nat) (wr : World) : Prop where
  ext : Ext [g] W1 wr
  stm : Stm wr base g (1000 - k)
  own : ∃ xs : List Ins, xs.length = k ∧ wr.ownsRow W1.heap.size 29 9 v k (codeCells xs)
theorem rdc_own {w : World} {base g n cap : Nat} {xs : List Ins} (h : w.ownsRow base 29 9 (.slice (some ⟨g, 0, none⟩) n cap) n (codeCells xs)) : RdC w (some ⟨g, 0, none⟩) xs :=
  .inr ⟨g, 0, rfl, fun k x hx j v hv => by
    rw [Nat.zero_add]
    exact row_cells h _ v (codeCells_get xs k x hx j v hv)⟩

set_option maxHeartbeats 4000000 in
set_option maxRecDepth 100000 in
theorem chipLimits_any (A : Option Addr) (len cap : Nat) (w : World) (hlen : len ≤ 9223372036854775807) (hA : 0 < len → ∃ b o, A = some ⟨b, o, none⟩ ∧ b < w.heap.size ∧ ∀ i, i < len → ∃ x, w.cell? ⟨b, o + i, none⟩ = some (.int .i64 x)) :
    Calls Try.prog 3 #[.slice A len cap] w fun e w' => e = .returned (.bool true) ∧ Ext [] w w' := by
  obtain ⟨i0, hi0, hz0, hz1, hz2⟩ := info_parts Try.info29
  have HST : Hd (Stm (w.alloc (.cells #[.slice A len cap, .int .i64 0] 25)) w.heap.size w.heap.size 2000) := hd ⟨A, len, cap, 0, Blk.new _ _ _, Nat.le_refl _, Int.le_refl _, by omega, hlen, fun h => by
    obtain ⟨b, o, h1, h2, h3⟩ := hA h
    refine ⟨b, o, h1, h2, fun i hi => ?_⟩
    obtain ⟨x, hx⟩ := h3 i hi
    exact ⟨x, ((Ext.refl [] w).alloc _).held hx (by simp)⟩⟩
  clear hA
  go_enter Try.func3, Try.ntmps3
  go_wp2_with fail
  refine (pick_any w.heap.size w.heap.size 1000 (w.heap.size + 1) 3 3 [15, 16, 17] _ ((HST.out.less (by omega)).alloc _) (Blk.new' _ _ _ _ (by simp)) (by omega) (by decide)).mono ?_
  rintro e w1 ⟨r, rfl, hr, hE1, hS1⟩
  obtain ⟨n, rfl, hn⟩ : ∃ n : Nat, r = n ∧ (n = 15 ∨ n = 16 ∨ n = 17) := by
    simp at hr
    rcases hr with rfl | rfl | rfl
    · exact ⟨15, rfl, by omega⟩
    · exact ⟨16, rfl, by omega⟩
    · exact ⟨17, rfl, by omega⟩
  have hn17 : n ≤ 17 := by omega
  have hn1 : 15 ≤ n := by omega
  have hgw : w.heap.size < w1.heap.size := hS1.lt
  have HS1 := hd hS1
  have HW1 : Hd (Ext [] w w1) := hd ((((Ext.refl [] w).alloc _).alloc _).step hE1 (fun x hx => .inr (by rw [List.mem_singleton.1 hx]; exact Nat.le_refl _)))
  clear hE1 hS1 hr
  go_wp2_with fail
  go_loopw [4, 13] (fun v i wr => ∃ k : Nat, i = .int .i64 k ∧ k ≤ n ∧ LimSt w1 w.heap.size w.heap.size v k wr) (fun _ i _ => (n - intOf i).toNat)
  case atStart => exact ⟨0, rfl, by omega, Ext.refl _ _, HS1.out, [], rfl, rfl, .inl ⟨rfl, rfl⟩⟩
  case round =>
    obtain ⟨k, rfl, hk, hL⟩ := hrel
    obtain ⟨xs, hxl, hown⟩ := hL.own
    have HO := hd hown
    have HEL := hd hL.ext
    have HSL := hd hL.stm
    have hwl : w1.heap.size ≤ wr.heap.size := hL.ext.size
    have hob : ∀ q, _ = some q → q ∉ [w.heap.size] := fun q hq hm => by
      have := own_base hown q hq
      rw [List.mem_singleton.1 hm] at this
      omega
    have HOB := hd hob
    clear hL hown hob
    by_cases hlt : k < n
    · go_wp2_with fail
      refine (pick_any w.heap.size w.heap.size (1000 - (k + 1)) wr.heap.size 5 3 [1, 1, 1, 0, 2] _ ((HSL.out.less (by omega)).alloc _) (Blk.new _ _ _) (by omega) (by decide)).mono ?_
      rintro e w2 ⟨r, rfl, _, hE2, hS2⟩
      have HE2 := hd (((Ext.refl [w.heap.size] wr).alloc _).trans hE2)
      have HS2 := hd hS2
      have hw2 : wr.heap.size ≤ w2.heap.size := HE2.out.size
      clear hE2 hS2
      go_wp2_with (
        refine wpList_append_lies _ rfl _ _ 26 rfl w1.heap.size 29 i0 _ 9 72 Try.underlying26 hi0 hz0 hz1 hz2 rfl (by decide) _ _ (codeCells xs) rfl (own_ext HO.out (HE2.out.alloc _) HOB.out) ⟨w2.heap.size, 0, none⟩ 1 1 (Ins.cells ⟨3, 0, 0, 0, 0, 0, 0, 0, r⟩) rfl rfl ?c1 ?c2 (by decide) ?c3 ?c4 ?c5 _ rfl ?_
        case c1 => exact World.news_of_block (Blk.new _ _ _)
        case c2 => intro u hu; simp [Ins.cells] at hu; rcases hu with rfl | rfl | rfl | rfl | rfl | rfl | rfl | rfl | rfl <;> rfl
        case c3 => unfold maxLen; omega
        case c4 => omega
        case c5 => simp; omega
        intro g2 cap2 w3 ho3 hg3 ha3 hlt3
        have HX3 := hd (And.intro ho3 hg3)
        clear ho3 hg3 ha3 hlt3)
      go_round
      case rel =>
        obtain ⟨ho3, hg3⟩ := HX3.out
        refine ⟨k + 1, by go_num, by omega, ?_, ?_, xs ++ [⟨3, 0, 0, 0, 0, 0, 0, 0, r⟩], by simp [hxl], by rw [codeCells_snoc]; exact ho3⟩
        · exact (HEL.out.trans (HE2.out.alloc _)).grown hg3 (fun q hq => .inr (own_base HO.out q hq))
        · refine (HS2.out.alloc _).ext (S := _) ((Ext.refl _ _).grown hg3 (fun q hq => .inl (show q ∈ (Option.toList (Value.ownBlock _)) by rw [hq]; simp))) ?_ ?_
          · intro hm
            have hm2 := Option.mem_toList.1 hm
            exact HOB.out _ hm2 (by simp)
          · intro q hq
            have := own_base HO.out q (Option.mem_toList.1 hq)
            omega
      case measure => simp [intOf]; omega
    · have hkn : k = n := by omega
      subst hkn
      go_wp2_with fail
      refine (repeat_any wr.heap.size 1 ⟨4, 0, 0, 0, 0, 0, 0, 0, 0⟩ k hn _ (Blk.new _ _ _)).mono ?_
      rintro e w2 ⟨B, rfl, hE2, ys, hyl, hyB⟩
      have HE2 := hd (((Ext.refl [] wr).alloc _).trans hE2)
      have HYB := hd hyB
      have HYL := hd hyl
      have hw2 : wr.heap.size ≤ w2.heap.size := HE2.out.size
      clear hE2 hyB hyl
      go_wp2_with (
        refine wpList_append_lies _ rfl _ _ 26 rfl w1.heap.size 29 i0 _ 9 72 Try.underlying26 hi0 hz0 hz1 hz2 rfl (by decide) _ _ (codeCells xs) rfl (own_ext HO.out HE2.out (by simp)) ⟨B, 0, none⟩ k k (codeCells ys) rfl (by rw [codeCells_length, HYL.out]) ?c1 ?c2 (by omega) ?c3 ?c4 ?c5 _ rfl ?_
        case c1 => exact World.news_of_block HYB.out
        case c2 => exact codeCells_one' ys
        case c3 => unfold maxLen; omega
        case c4 => omega
        case c5 => omega
        intro g2 cap2 w3 ho3 hg3 ha3 hlt3
        have HX3 := hd (And.intro ho3 hg3)
        have HLT3 := hd hlt3
        clear ho3 hg3 ha3 hlt3)
      refine (flip_any w.heap.size w.heap.size 100 2 _ ?_ (by omega)).mono ?_
      · obtain ⟨_, hg3⟩ := HX3.out
        refine ((HSL.out.ext HE2.out (by simp) (by simp)).ext (S := _) ((Ext.refl _ _).grown hg3 (fun q hq => .inl (show q ∈ (Option.toList (Value.ownBlock _)) by rw [hq]; simp))) ?_ ?_).less (by omega)
        · intro hm
          have hm2 := Option.mem_toList.1 hm
          exact HOB.out _ hm2 (by simp)
        · intro q hq
          have := own_base HO.out q (Option.mem_toList.1 hq)
          omega
      rintro e w4 ⟨fb, rfl, hE4, hS4⟩
      have HR4 : Hd (RdC w4 (some ⟨g2, 0, none⟩) (xs ++ ys)) := hd (by
        obtain ⟨ho3, hg3⟩ := HX3.out
        rw [← codeCells_append] at ho3
        refine (rdc_own ho3).ext hE4 (fun a ha => ?_)
        cases ha
        intro hm
        have hb := (ho3.lt g2 rfl).1
        have he : g2 = w.heap.size := by simpa using hm
        omega)
      have HW4 : Hd (Ext [] w w4) := hd (by
        obtain ⟨ho3, hg3⟩ := HX3.out
        have e1 : Ext [w.heap.size] w1 w3 := ((HEL.out.trans HE2.out.nil)).grown hg3 (fun q hq => .inr (own_base HO.out q hq))
        exact HW1.out.step (e1.trans hE4) (fun x hx => .inr (by rw [List.mem_singleton.1 hx]; exact Nat.le_refl _)))
      have HS4 := hd hS4
      have HL4 : Hd ((xs ++ ys).length = k + k) := hd (by rw [List.length_append, hxl, HYL.out])
      clear hE4 hS4
      cases fb
      · have HCK : Hd (∀ W, Ext [] w4 W → Calls Try.prog 13 #[.agg #[.int .i64 8, .int .i64 2, .int .i64 256, .int .i64 2, .int .i64 1], .slice (some ⟨g2, 0, none⟩) (k + k) cap2] W fun e w' => e = .returned (.int .i64 (checkS mS (xs ++ ys))) ∧ Ext [] W w') := hd fun W hE => by
          have := check_any mS (some ⟨g2, 0, none⟩) cap2 (xs ++ ys) W (HR4.out.ext hE (by simp)) (by rw [HL4.out]; omega)
          rw [HL4.out] at this
          exact this
        have HCF : Hd (∀ W, Ext [] w4 W → Calls Try.prog 15 #[.agg #[.int .i64 8, .int .i64 2, .int .i64 256, .int .i64 2, .int .i64 1], .slice (some ⟨g2, 0, none⟩) (k + k) cap2] W fun e w' => e = .returned (.int .i64 (checkS mS (xs ++ ys))) ∧ Ext [] W w') := hd fun W hE => by
          have := chipFault_any mS (some ⟨g2, 0, none⟩) cap2 (xs ++ ys) W (HR4.out.ext hE (by simp)) (by rw [HL4.out]; omega)
          rw [HL4.out] at this
          exact this
        have HE5 : Hd (Ext [] w4 w4) := hd (Ext.refl _ _)
        have HW := HW4
        go_wp2_with fail
        refine (chips_any _).mono ?_
        rintro e w6 ⟨rfl, hE6⟩
        have HE6 := hd (HE5.out.trans hE6)
        clear hE6
        go_wp2_with fail
        refine (small_any _).mono ?_
        rintro e w7 ⟨rfl, hE7⟩
        have HE7 := hd (HE6.out.trans hE7)
        clear hE7
        go_wp2_with fail
        refine (HCK.out _ HE7.out).mono ?_
        rintro e w8 ⟨rfl, hE8⟩
        have HE8 := hd (HE7.out.trans hE8)
        clear hE8
        go_wp2_with fail
        refine (small_any _).mono ?_
        rintro e w9 ⟨rfl, hE9⟩
        have HE9 := hd (HE8.out.trans hE9)
        clear hE9
        go_wp2_with fail
        refine (HCF.out _ HE9.out).mono ?_
        rintro e w10 ⟨rfl, hE10⟩
        have HE10 := hd (HE9.out.trans hE10)
        clear hE10
        generalize checkS mS _ = r at *
        go_wp2_with fail
        go_ret
        exact ⟨ret_bool (by simp), HW.out.trans HE10.out⟩
      · go_wp2_with fail
        refine (pick_any w.heap.size w.heap.size 50 w4.heap.size 2 3 [39, 40] _ ((HS4.out.less (by omega)).alloc _) (Blk.new _ _ _) (by have := HS4.out.lt; omega) (by decide)).mono ?_
        rintro e w5 ⟨r1, rfl, _, hE5, hS5⟩
        have HE5a := hd (((Ext.refl [w.heap.size] w4).alloc _).trans hE5)
        have HS5 := hd hS5
        clear hE5 hS5
        go_wp2_with fail
        refine (pick_any w.heap.size w.heap.size 20 w5.heap.size 3 3 [499998, 499999, 500000] _ ((HS5.out.less (by omega)).alloc _) (Blk.new _ _ _) (by have := HS5.out.lt; omega) (by decide)).mono ?_
        rintro e w5b ⟨r2, rfl, _, hE5, hS5⟩
        have HE5b := hd (HE5a.out.trans (((Ext.refl [w.heap.size] w5).alloc _).trans hE5))
        clear hE5 hS5
        go_upto_region 11 with fail
        obtain ⟨W5, hW5⟩ : ∃ W5, W5 = w5b.alloc (.cells #[.int .i64 3, .int .i64 0, .int .i64 0, .int .i64 0, .int .i64 0, .int .i64 0, .int .i64 0, .int .i64 0, .int .i64 r1, .int .i64 3, .int .i64 0, .int .i64 0, .int .i64 0, .int .i64 0, .int .i64 0, .int .i64 0, .int .i64 0, .int .i64 r2, .int .i64 16, .int .i64 0, .int .i64 0, .int .i64 0, .int .i64 0, .int .i64 0, .int .i64 0, .int .i64 0, .int .i64 0, .int .i64 4, .int .i64 0, .int .i64 0, .int .i64 0, .int .i64 0, .int .i64 0, .int .i64 0, .int .i64 0, .int .i64 0, .int .i64 4, .int .i64 0, .int .i64 0, .int .i64 0, .int .i64 0, .int .i64 0, .int .i64 0, .int .i64 0, .int .i64 0] 29) := ⟨_, rfl⟩
        obtain ⟨zs, hzs⟩ : ∃ zs : List Ins, zs = [⟨3, 0, 0, 0, 0, 0, 0, 0, r1⟩, ⟨3, 0, 0, 0, 0, 0, 0, 0, r2⟩, ⟨16, 0, 0, 0, 0, 0, 0, 0, 0⟩, ⟨4, 0, 0, 0, 0, 0, 0, 0, 0⟩, ⟨4, 0, 0, 0, 0, 0, 0, 0, 0⟩] := ⟨_, rfl⟩
        have hzl : zs.length = 5 := by rw [hzs]; rfl
        have HR5 : Hd (RdC W5 (some ⟨w5b.heap.size, 0, none⟩) zs) := hd (by
          rw [hW5, hzs]
          exact rdc_blk (Blk.new w5b 29 _))
        have HW : Hd (Ext [] w W5) := hd (by
          rw [hW5]
          exact HW4.out.step (HE5b.out.alloc _) (fun x hx => .inr (by rw [List.mem_singleton.1 hx]; exact Nat.le_refl _)))
        have HE5 : Hd (Ext [] W5 W5) := hd (Ext.refl _ _)
        rw [← hW5]
        clear hzs hW5
        have HCK : Hd (∀ W, Ext [] W5 W → Calls Try.prog 13 #[.agg #[.int .i64 8, .int .i64 2, .int .i64 256, .int .i64 2, .int .i64 1], .slice (some ⟨w5b.heap.size, 0, none⟩) 5 5] W fun e w' => e = .returned (.int .i64 (checkS mS zs)) ∧ Ext [] W w') := hd fun W hE => by
          have := check_any mS (some ⟨w5b.heap.size, 0, none⟩) 5 zs W (HR5.out.ext hE (by simp)) (by rw [hzl]; decide)
          rw [hzl] at this
          exact this
        have HCF : Hd (∀ W, Ext [] W5 W → Calls Try.prog 15 #[.agg #[.int .i64 8, .int .i64 2, .int .i64 256, .int .i64 2, .int .i64 1], .slice (some ⟨w5b.heap.size, 0, none⟩) 5 5] W fun e w' => e = .returned (.int .i64 (checkS mS zs)) ∧ Ext [] W w') := hd fun W hE => by
          have := chipFault_any mS (some ⟨w5b.heap.size, 0, none⟩) 5 zs W (HR5.out.ext hE (by simp)) (by rw [hzl]; decide)
          rw [hzl] at this
          exact this
        go_wp2_with fail
        refine (chips_any _).mono ?_
        rintro e w6 ⟨rfl, hE6⟩
        have HE6 := hd (HE5.out.trans hE6)
        clear hE6
        go_wp2_with fail
        refine (small_any _).mono ?_
        rintro e w7 ⟨rfl, hE7⟩
        have HE7 := hd (HE6.out.trans hE7)
        clear hE7
        go_wp2_with fail
        refine (HCK.out _ HE7.out).mono ?_
        rintro e w8 ⟨rfl, hE8⟩
        have HE8 := hd (HE7.out.trans hE8)
        clear hE8
        go_wp2_with fail
        refine (small_any _).mono ?_
        rintro e w9 ⟨rfl, hE9⟩
        have HE9 := hd (HE8.out.trans hE9)
        clear hE9
        go_wp2_with fail
        refine (HCF.out _ HE9.out).mono ?_
        rintro e w10 ⟨rfl, hE10⟩
        have HE10 := hd (HE9.out.trans hE10)
        clear hE10
        generalize checkS mS _ = r at *
        go_wp2_with fail
        go_ret
        exact ⟨ret_bool (by simp), HW.out.trans HE10.out⟩
end Go.Proofs.Ythfhbbbgealclaa
