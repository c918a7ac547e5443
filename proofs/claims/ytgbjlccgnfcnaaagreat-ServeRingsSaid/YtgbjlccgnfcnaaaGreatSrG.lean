/- ServeRings: the walk. -/
import Derived.Test.YtgbjlccgnfcnaaaGreatSrF
import Derived.Deep.DeepCutAuto
import Derived.Deep.CutBlock
namespace Go.Proofs.YtgbjlccgnfcnaaaGreat
open Go.RowKit
set_option linter.unusedSimpArgs false
set_option linter.unusedVariables false
attribute [local irreducible] relAt

set_option maxHeartbeats 4000000 in
set_option maxRecDepth 100000 in
theorem serveRings_any (A : Option Addr) (len cap : Nat) (w : World) (hlen : len ≤ 9223372036854775807) (hA : 0 < len → ∃ b o, A = some ⟨b, o, none⟩ ∧ b < w.heap.size ∧ ∀ i, i < len → ∃ x, w.cell? ⟨b, o + i, none⟩ = some (.int .i64 x)) :
    Calls Tryz.prog 5 #[.slice A len cap] w fun e w' => e = .returned (.bool true) ∧ Ext [] w w' := by
  have HS0 := hd (stream_new A len cap w hlen hA)
  have HE0 := hd ((Ext.refl [] w).alloc (.cells #[.slice A len cap, .int .i64 0] 32))
  have hw0 : (w.alloc (.cells #[.slice A len cap, .int .i64 0] 32)).heap.size = w.heap.size + 1 := by simp
  obtain ⟨i0, hi0, hz0, hz1, hz2⟩ := rowInfo
  clear hA
  go_enter Tryz.func5, Tryz.ntmps5
  go_wp2_with fail
  generalize hW0 : World.alloc _ _ = W0 at *
  clear hW0
  refine (next_any w.heap.size w.heap.size 100000 _ _ (HS0.o.less (by omega)) (by omega)).mono ?_
  rintro e w1 ⟨r, rfl, ⟨hr0, hr1⟩, hE1, hS1⟩
  replace hr1 := hr1 (by omega)
  obtain ⟨n, rfl⟩ := Int.eq_ofNat_of_zero_le hr0
  have HE1 := hd (HE0.o.step hE1 (by simp))
  have HS1 := hd hS1
  have hz1' := hE1.size
  clear hE1 hS1 HE0 HS0 hr0
  go_wp2_with fail
  have HE1b := hd (HE1.o.alloc (.cells #[.int .i64 0, .int .i64 1, .int .i64 2, .int .i64 3, .int .i64 4, .int .i64 5] 3))
  refine (pick_any w.heap.size w.heap.size 90000 w1.heap.size 6 3 [0, 1, 2, 3, 4, 5] _ ((HS1.out.less (by omega)).alloc _) (Blk.new _ _ _) (by omega) (by decide)).mono ?_
  rintro e w2 ⟨p', rfl, hp, hE2, hS2⟩
  have hp5 : 0 ≤ p' ∧ p' ≤ 5 := by simp at hp; omega
  obtain ⟨hp0, hp5⟩ := hp5
  obtain ⟨p, rfl⟩ := Int.eq_ofNat_of_zero_le hp0
  have HE2 := hd (HE1b.o.step hE2 (by simp))
  have HS2 := hd hS2
  have hz2' : w1.heap.size + 1 ≤ w2.heap.size := by have := hE2.size; simpa using this
  clear hE2 hS2 HE1 HE1b HS1 hp0 hp
  go_wp2_with fail
  go_loopw [4, 24] (fun v i wr => ∃ (j : Nat) (A : Option Addr) (c : Nat) (vs : List Value), i = .int .i64 j ∧ v = .slice A j c ∧ j ≤ p ∧ Hd (Ext [] w wr) ∧ Hd (Stm wr w.heap.size w.heap.size (500 + 100 * (p - j))) ∧ Hd (wr.ownsRow (w.heap.size + 1) 22 1 (.slice A j c) j vs) ∧ Hd (Parts n wr (w.heap.size + 1) vs) ∧ w.heap.size + 1 ≤ wr.heap.size) (fun _ i _ => (p - intOf i).toNat)
  case atStart => exact ⟨0, none, 0, [], rfl, rfl, Nat.zero_le _, HE2, hd (HS2.o.less (by omega)), hd ⟨rfl, .inl ⟨rfl, rfl⟩⟩, hd (Parts.nil _ _), by omega⟩
  case round =>
    obtain ⟨j, A, c, vs, rfl, rfl, hj, HE, HS, HO, HP, hzz⟩ := hrel
    rename World => wq
    by_cases hlj : j < p
    · go_wp2_with fail
      refine (words_any w.heap.size w.heap.size (500 + 100 * (p - (j + 1))) n wq (HS.o.less (by omega)) (by omega) (by omega)).mono ?_
      rintro e w9 ⟨A9, c9, xs9, rfl, hx9, hO9, hE9, hS9⟩
      have hz9 := hE9.size
      have HNW := hd (cell_one_new w9 (.slice A9 n c9) 22)
      have HEN := hd ((Ext.refl [] w9).alloc (.cells #[.slice A9 n c9] 22))
      have HEA := hd (hE9.alloc (.cells #[.slice A9 n c9] 22))
      have HOA := hd (own_ext HO.o HEA.o (fun k hk => by have := own_base HO.o k hk; simp; omega))
      have HSA := hd (hS9.alloc (.cells #[.slice A9 n c9] 22))
      have HN9 := hd (own_base hO9)
      have HP9 : Hd (Parts n w9 (w.heap.size + 1) (vs ++ [.slice A9 n c9])) := hd (by
        refine Parts.push HP.o (HP.o.ext hE9 (by simp)) ⟨A9, c9, xs9, by rw [hx9], hx9, by omega, ?_⟩ HN9.o
        rw [hx9]
        exact own_low hO9 (by omega))
      clear hE9 hS9 hO9
      go_wp2_with (
        refine wpList_append_lies _ rfl _ _ 51 rfl (w.heap.size + 1) 22 i0 _ 1 24 Tryz.underlying51 hi0 hz0 hz1 hz2 rfl (by decide) _ j _ rfl HOA.o ⟨w9.heap.size, 0, none⟩ 1 1 [.slice A9 n c9] rfl rfl HNW.o ?c2 (by omega) ?c3 ?c4 ?c5 _ rfl ?_
        case c2 => intro u hu; rw [List.mem_singleton.1 hu]; rfl
        case c3 => unfold maxLen; omega
        case c4 => omega
        case c5 => simp; omega
        intro g8 c8 w8 ho8 hg8 hi8 ha8
        have HO8 := hd ho8
        have HE8 := hd ((HE.o.step HEA.o (fun x hx => .inr (by simp at hx; omega))).grown hg8 (fun q hq => .inr (by have := own_base HO.out q hq; omega)))
        have HS8 := hd (HSA.o.grown hg8 (fun k hk => by have := own_base HO.o k hk; omega))
        have HP8 := hd ((HP9.o.ext HEN.o (by simp)).grown HOA.o (by decide) hg8)
        have hz8 : w.heap.size + 1 ≤ w8.heap.size := by have := hg8.size; simp at this; omega
        clear ho8 hg8 hi8)
      go_roundw
      case rel => exact ⟨j + 1, _, c8, vs ++ [.slice A9 n c9], by go_num, rfl, by omega, HE8, HS8, HO8, HP8, hz8⟩
      case measure => simp [intOf]; omega
    · have hjp : j = p := by omega
      subst hjp
      clear HE2 HS2 hlj hj
      rename Option Addr => A1
      by_cases h0 : j = 0
      · subst h0
        clear HO HP
        go_wp2_with fail
        refine (ring_any A1 0 0 c [] wq (fun h => absurd h (by omega)) (fun i x hx => (by simp at hx)) rfl (by omega)).mono ?_
        rintro e w4 (⟨rfl, hE4, hne⟩ | ⟨gg, gc, L', rfl, hE4, hz, hPI', hL', hS'⟩)
        · have HE4 := hd (HE.o.trans hE4)
          clear hE4
          go_wp2_with fail
          refine (ringFault_any A1 0 0 c [] _ (fun h => absurd h (by omega)) (fun i x hx => (by simp at hx)) rfl (by omega)).mono ?_
          rintro e w5 ⟨rfl, hE5⟩
          have HE5 := hd (HE4.o.trans hE5)
          have hnb : (ringE [] != 0) = true := by simpa using hne
          have hee : (ringE [] == ringE []) = true := by simp
          generalize ringE [] = ee at *
          clear hE5
          go_wp2_with fail
          refine (serves_any _).mono ?_
          rintro e w6 ⟨rfl, hE6⟩
          have HE6 := hd (HE5.o.trans hE6)
          clear hE6
          go_wp2_with fail
          go_ret
          exact ⟨rfl, HE6.o⟩
        · exact absurd hz (by decide)
      · obtain ⟨F, hFv, hTab⟩ := HP.o.tab (by simpa using HO.o.1)
        obtain ⟨g, cg, hAg, hg1, HU, hg2⟩ := upw_row HO.o (by omega) (f := F) hFv
        cases hAg
        clear hFv HP HO
        have hgj : 0 < (j : Int) := by omega
        go_upto_if 39 with (go_at_call 22; refine (flip_any w.heap.size w.heap.size 400 _ _ (HS.o.less (by omega)) (by omega)).mono ?_; rintro e w3 ⟨b3, rfl, hE3, hS3⟩)
        have HT3 := hd (hTab.ext hE3 (by simp))
        have HU3 := hd (HU.ext hE3 (by simp; omega))
        have HE3 := hd (HE.o.step hE3 (by simp))
        have HS3 := hd hS3
        have hz3 : w.heap.size + 1 ≤ w3.heap.size := Nat.le_trans hzz hE3.size
        clear hTab HU hE3 hS3 HS HE
        go_cut [] (fun wx => ∃ L : List Pt, L.length = j ∧ Hd (PtsIn wx g L) ∧ Hd (Ext [] w wx))
        case first =>
          cases b3
          · go_wp2_with fail
            go_meet
            obtain ⟨L, hL, hPI⟩ := pts_of HU3.o HT3.o.ok
            exact ⟨L, hL, hd hPI, HE3⟩
          · go_wp2_with fail
            refine (next_any w.heap.size w.heap.size 390 _ _ (HS3.o.less (by omega)) (by omega)).mono ?_
            rintro e w4 ⟨k', rfl, ⟨hk0, hk1⟩, hE4, hS4⟩
            replace hk1 := hk1 (by omega)
            obtain ⟨k, rfl⟩ := Int.eq_ofNat_of_zero_le hk0
            have hkj : k < j := by omega
            have HT4 := hd (HT3.o.ext hE4 (by simp))
            have HU4 := hd (HU3.o.ext hE4 (by simp; omega))
            have HE4 := hd (HE3.o.step hE4 (by simp))
            have HS4 := hd hS4
            have hz4 : w.heap.size + 1 ≤ w4.heap.size := Nat.le_trans hz3 hE4.size
            clear HT3 HU3 hE4 hS4 HS3 HE3 hk0 hk1 hz3
            go_wp2_with fail
            refine (flip_any w.heap.size w.heap.size 380 _ _ (HS4.o.less (by omega)) (by omega)).mono ?_
            rintro e w5 ⟨b5, rfl, hE5, hS5⟩
            have HT5 := hd (HT4.o.ext hE5 (by simp))
            have HU5 := hd (HU4.o.ext hE5 (by simp; omega))
            have HE5 := hd (HE4.o.step hE5 (by simp))
            have HS5 := hd hS5
            have hz5 : w.heap.size + 1 ≤ w5.heap.size := Nat.le_trans hz4 hE5.size
            clear HT4 HU4 hE5 hS5 HS4 HE4 hz4
            cases b5
            · go_wp2_with fail
              refine (flip_any w.heap.size w.heap.size 370 _ _ (HS5.o.less (by omega)) (by omega)).mono ?_
              rintro e w6 ⟨b6, rfl, hE6, hS6⟩
              have HT6 := hd (HT5.o.ext hE6 (by simp))
              have HU6 := hd (HU5.o.ext hE6 (by simp; omega))
              have HE6 := hd (HE5.o.step hE6 (by simp))
              have HS6 := hd hS6
              have hz6 : w.heap.size + 1 ≤ w6.heap.size := Nat.le_trans hz5 hE6.size
              clear HT5 HU5 hE6 hS6 HS5 HE5 hz5
              cases b6
              · by_cases hn0 : n = 0
                · subst hn0
                  go_wp2_with fail
                  go_meet
                  obtain ⟨L, hL, hPI⟩ := pts_of HU6.o HT6.o.ok
                  exact ⟨L, hL, hd hPI, HE6⟩
                · have hn1 : 0 < (n : Int) := by omega
                  obtain ⟨Ak, ck, xk, hFk, hxk, hxm, hOk⟩ := HT6.o.1 k hkj
                  rw [hFk, hxk] at hOk
                  obtain ⟨A', c', hAA, hcc, hgk⟩ := own_form hOk
                  cases hAA
                  obtain ⟨bk, rfl, hbk1, hbk2⟩ := hgk (by omega)
                  have HFk := hd hFk
                  have HOk := hd hOk
                  have HXk := hd hxk
                  rw [hxk] at hFk
                  have HCk := hd (show w6.cell? ⟨g, k, none⟩ = some (.slice (some ⟨bk, 0, none⟩) n ck) by rw [HU6.o.cell hkj, hFk])
                  have hgl6 := HU6.o.lt
                  clear hOk hFk hxk
                  go_wp2_with fail
                  refine wp_region_rel 7 (JS w.heap.size w.heap.size 300 _) (Ext [w.heap.size]) (kinds [(5, sNums 2 w.heap.size), (6, sAny)]) (by kernel_rfl) (by kernel_rfl) JS.less ?_ (JS.start (Stm.less HS6.o (by omega))) ?_
                  · repeat (first | exact Stays.nil | refine Stays.cons sNums.stays ?_ | refine Stays.cons sAny.stays ?_)
                  simp only [List.take_succ_cons, List.take_zero, List.drop_succ_cons, List.drop_zero]
                  repeat
                    refine relAt_det rfl rfl ?_
                    apply Exists.intro
                    refine ⟨fun wr nr hJ => ?_, ?_⟩
                    · have q1 := hJ.1.held HCk.o (by simp; omega); have q2 := Nat.lt_of_lt_of_le hgl6 hJ.1.size
                      clear hJ
                      (go_simp; try go_bits)
                      first | rfl | exact ⟨rfl, rfl⟩
                    simp only [Act.put, List.setIfInBounds_toArray, List.set_cons_succ, List.set_cons_zero]
                  refine rel_nums 2 [2147483648, -2147483649] rfl rfl rfl ?_ ?_
                  · intro wr
                    go_simp
                    try first | rfl | exact ⟨rfl, rfl⟩
                  intro (bx : Nat)
                  simp only [Act.put, List.setIfInBounds_toArray, List.set_cons_succ, List.set_cons_zero]
                  refine rel_pick 5 bx 2 rfl rfl (by kernel_rfl) rfl (by omega) ?_ ?_
                  · intro wr
                    go_simp
                    try first | rfl | exact ⟨rfl, rfl⟩
                  intro (x7 : Int)
                  simp only [Act.put, List.setIfInBounds_toArray, List.set_cons_succ, List.set_cons_zero]
                  refine relAt_nil (fun w9 hJ hF => ?_)
                  have HJ9 := hd hJ.1
                  clear hF hJ
                  have HO9 := hd (own_ext HOk.o HJ9.o (fun q hq => by have := own_base HOk.o q hq; simp; omega))
                  obtain ⟨Ck, hCk⟩ := own_blk HO9.o (g := bk) rfl
                  have HC9 := hd hCk
                  have HU9 := hd (HU6.o.ext HJ9.o (by simp; omega))
                  have hgb : g ≠ bk := fun e => by
                    obtain ⟨cur, hD, _⟩ := HU9.o
                    subst e
                    exact absurd (hD.type hCk) (by decide)
                  obtain ⟨z0, hz0'⟩ : ∃ z, xk[0]? = some z := ⟨_, List.getElem?_eq_getElem (by have := HXk.o; omega)⟩
                  have hc9 := row_cells HO9.o 0 _ (by rw [List.getElem?_map, hz0']; rfl)
                  have hf9 := hCk.frozen 0
                  have hl9 := hCk.lt
                  have HE9 := hd (HE6.o.step HJ9.o (by simp))
                  clear hz0' hCk
                  go_wp2_with fail
                  go_meet
                  have hv : ∀ i, i < j → VOk (w9.setCell ⟨bk, 0, none⟩ (.int .i64 x7)) (F i) := fun i hi => by
                    by_cases hik : i = k
                    · subst hik
                      refine ⟨some ⟨bk, 0, none⟩, ck, xk.set 0 x7, by rw [HFk.o, List.length_set], .inr ⟨bk, 0, rfl, nums_put x7 HC9.o fun q y hy => ?_⟩, by rw [List.length_set, HXk.o]; omega⟩
                      rw [Nat.zero_add]
                      exact row_cells HO9.o q _ (by rw [List.getElem?_map, hy]; rfl)
                    · refine (((HT6.o.1 i hi).ext HJ9.o (fun q hq => by have := (HT6.o.1 i hi).base q hq; simp; omega)).ext (S := [bk]) (Ext.setAt (.inl (by simp)) (Ext.refl _ _)) (fun q hq hm => ?_)).ok
                      have e := List.mem_singleton.1 hm
                      subst e
                      exact HT6.o.2 i k q hi hkj hik hq (by rw [HFk.o]; rfl)
                  obtain ⟨L, hL, hPI⟩ := pts_of (HU9.o.far hgb _) hv
                  exact ⟨L, hL, hd hPI, hd (Ext.setAt (.inr (by omega)) HE9.o)⟩
              · go_wp2_with fail
                refine (pick_any w.heap.size w.heap.size 300 w6.heap.size 2 3 [1024, 1025] _ ((HS6.out.less (by omega)).alloc _) (Blk.new _ _ _) (by omega) (by decide)).mono ?_
                rintro e w7 ⟨r7, rfl, hr7, hE7, hS7⟩
                have hr8 : 0 ≤ r7 ∧ r7 ≤ 1025 := by simp at hr7; omega
                obtain ⟨m7, rfl⟩ := Int.eq_ofNat_of_zero_le hr8.1
                have hm7 : m7 ≤ 1025 := by omega
                have HE7a := hd ((Ext.refl [] w6).alloc (.cells #[.int .i64 1024, .int .i64 1025] 3))
                have HT7 := hd (((HT6.o.ext HE7a.o (by simp)).ext hE7 (by simp)).ext ((Ext.refl [] w7).alloc (.cells (Nums (List.replicate m7 0)) 3)) (by simp))
                have HU7 := hd (((HU6.o.ext HE7a.o (by simp)).ext hE7 (by simp; omega)).ext ((Ext.refl [] w7).alloc (.cells (Nums (List.replicate m7 0)) 3)) (by simp))
                have HE7 := hd (((HE6.o.trans HE7a.o).step hE7 (by simp)).alloc (.cells (Nums (List.replicate m7 0)) 3))
                have HNW := hd (Blk.new w7 3 (Nums (List.replicate m7 0)))
                have hmk := make_nums m7 (by omega) w7
                have hk7 := HU7.o.frozen k
                have hc7 := HU7.o.cell hkj
                have hl7 := HU7.o.lt
                clear hE7 hS7 hr7 hr8 HT6 HU6 HE6 HS6 HE7a
                generalize hw7 : w7.heap.size = s7 at *
                generalize hW7 : World.alloc w7 _ = W7 at *
                clear hW7
                go_wp2_with fail
                go_meet
                have hv : VOk (W7.setCell ⟨g, k, none⟩ (.slice (some ⟨s7, 0, none⟩) m7 m7)) (.slice (some ⟨s7, 0, none⟩) m7 m7) := by
                  refine ⟨some ⟨s7, 0, none⟩, m7, List.replicate m7 0, by simp, .inr ⟨s7, 0, rfl, NumsAt.blk (HNW.o.far (fun e => ?_) _)⟩, by simp; omega⟩
                  obtain ⟨cur, hD, _⟩ := HU7.o
                  subst e
                  exact absurd (HNW.o.type hD) (by decide)
                obtain ⟨L, hL, hPI⟩ := upw_put HU7.o (fun i hi hik => ((HT7.o.1 i hi).put _ HU7.o).ok) hv
                exact ⟨L, hL, hd hPI, hd (Ext.setAt (.inr (by omega)) HE7.o)⟩
            · obtain ⟨Ak, ck, xk, hFk, hxk, hxm, hOk⟩ := HT5.o.1 k hkj
              obtain ⟨j0, hj0, hy0, hy1, hy2⟩ := intInfo
              have hFk' := hd hFk
              rw [hFk] at hOk
              have HNW := hd (cell_one_new w5 (.int .i64 1) 3)
              have HEA := hd ((Ext.refl [] w5).alloc (.cells #[.int .i64 1] 3))
              have HOA := hd (own_ext hOk HEA.o (by simp))
              have HTA := hd (HT5.o.ext HEA.o (by simp))
              have HUA := hd (HU5.o.ext HEA.o (by simp))
              have hc5 := HU5.o.cell hkj
              have hl5 := HU5.o.lt
              rw [hFk] at hc5
              rw [hxk] at hc5 HOA
              clear hOk
              go_wp2_with (
                refine wpList_append_lies _ rfl _ _ 22 rfl (w.heap.size + 1) 3 j0 _ 1 8 Tryz.underlying22 hj0 hy0 hy1 hy2 rfl (by decide) _ n _ rfl HOA.o ⟨w5.heap.size, 0, none⟩ 1 1 [.int .i64 1] rfl rfl HNW.o ?c2 (by omega) ?c3 ?c4 ?c5 _ rfl ?_
                case c2 => intro u hu; rw [List.mem_singleton.1 hu]; rfl
                case c3 => unfold maxLen; omega
                case c4 => omega
                case c5 => simp; omega
                intro g8 c8 w8 ho8 hg8 hi8 ha8
                have HO8 := hd ho8
                have HG8 := hd hg8
                have HU8 := hd (HUA.o.grown hg8 (fun e => by
                  obtain ⟨C, hC⟩ := own_blk HOA.o e
                  obtain ⟨cur, hD, _⟩ := HUA.o
                  exact absurd (hC.type hD) (by decide)))
                have hc8 := HU8.o.cell hkj
                have hf8 := HU8.o.frozen k
                have hl8 := HU8.o.lt
                have HE8 := hd ((HE5.o.trans HEA.o).grown hg8 (fun q hq => .inr (by have := own_base HOA.out q hq; omega)))
                clear ho8 hg8 hi8)
              go_meet
              have hv : VOk (w8.setCell ⟨g, k, none⟩ (.slice (some ⟨g8, 0, none⟩) (n + 1) c8)) (.slice (some ⟨g8, 0, none⟩) (n + 1) c8) := by
                have hO9 := own_ext (w' := w8.setCell ⟨g, k, none⟩ (.slice (some ⟨g8, 0, none⟩) (n + 1) c8)) HO8.o (S := [g]) (Ext.setAt (.inl (by simp)) (Ext.refl _ _)) (fun q hq hm => by
                  obtain ⟨C, hC⟩ := own_blk HO8.o hq
                  obtain ⟨cur, hD, _⟩ := HU8.o
                  have e := List.mem_singleton.1 hm
                  subst e
                  exact absurd (hC.type hD) (by decide))
                have hO9' : (w8.setCell ⟨g, k, none⟩ (.slice (some ⟨g8, 0, none⟩) (n + 1) c8)).ownsRow (w.heap.size + 1) 3 1 (.slice (some ⟨g8, 0, none⟩) (n + 1) c8) (n + 1) ((xk ++ [1]).map (Value.int .i64)) := by
                  rw [List.map_append]; exact hO9
                exact ⟨some ⟨g8, 0, none⟩, c8, xk ++ [1], by rw [List.length_append, hxk]; rfl, (own_rdb hO9').rd, by rw [List.length_append, hxk]; simp; omega⟩
              obtain ⟨L, hL, hPI⟩ := upw_put HU8.o (fun i hi hik => (PtO.put _ ((HTA.o.1 i hi).ext (S := (Value.slice Ak n ck).ownBlock.toList) ((Ext.refl _ _).grown HG8.o (fun q hq => .inl (Option.mem_toList.2 hq))) (fun q hq hm => HT5.o.2 i k q hi hkj hik hq (by rw [hFk'.o, hxk]; exact Option.mem_toList.1 hm))) HU8.o).ok) hv
              exact ⟨L, hL, hd hPI, hd (Ext.setAt (.inr (by omega)) HE8.o)⟩
        case rest =>
          obtain ⟨L, hL, HPI, HEX⟩ := hcut
          clear HT3 HU3 HE3 HS3 hz3
          rename World => wc
          go_wp2_with fail
          refine (ring_any (some ⟨g, 0, none⟩) g j c L _ (fun _ => rfl) HPI.o hL (by omega)).mono ?_
          rintro e w4 (⟨rfl, hE4, hne⟩ | ⟨gg, gc, L', rfl, hE4, hz, hPI', hL', hS'⟩)
          · have HE4 := hd (HEX.o.trans hE4)
            have HP4 := hd (HPI.o.ext hE4)
            clear hE4
            go_wp2_with fail
            refine (ringFault_any (some ⟨g, 0, none⟩) g j c L _ (fun _ => rfl) HP4.o hL (by omega)).mono ?_
            rintro e w5 ⟨rfl, hE5⟩
            have HE5 := hd (HE4.o.trans hE5)
            have hnb : (ringE L != 0) = true := by simpa using hne
            have hee : (ringE L == ringE L) = true := by simp
            generalize ringE L = ee at *
            clear hE5
            go_wp2_with fail
            refine (serves_any _).mono ?_
            rintro e w6 ⟨rfl, hE6⟩
            have HE6 := hd (HE5.o.trans hE6)
            clear hE6
            go_wp2_with fail
            go_ret
            exact ⟨rfl, HE6.o⟩
          · obtain ⟨hj4, hz1', hz2', hz3'⟩ := ringE_zero hz
            rw [hL] at hj4
            have HO := hd hz2'
            have HB := hd hz3'
            have HZ := hd hz
            have HE4 := hd (HEX.o.trans hE4)
            have HP4 := hd (HPI.o.ext hE4)
            have HPG := hd hPI'
            have HLG := hd hL'
            have HSG := hd hS'
            have HL := hd hL
            clear hE4 hz1' hz2' hz3' hz hPI' hL' hS' HEX HPI
            go_wp2_with fail
            refine (ringFault_any (some ⟨g, 0, none⟩) g j c L _ (fun _ => rfl) HP4.o HL.o (by omega)).mono ?_
            rintro e w5 ⟨rfl, hE5⟩
            rw [HZ.o]
            have HE5 := hd (HE4.o.trans hE5)
            have HP5 := hd (HP4.o.ext hE5)
            have HPG5 := hd (HPG.o.ext hE5)
            clear hE5 HPG HP4 HE4
            obtain ⟨A0, d0, n0, xs0, hx0, hn0, hc0, hR0, h90⟩ := HP5.o.at (i := 0) (by have := HL.o; omega)
            have HN0 := hd (show len0 L = n0 by rw [len0_of hx0, hn0])
            have hmk := make_nums n0 (by omega) w5
            have hgl5 := World.block_lt_of_cell? _ _ hc0
            simp only at hgl5
            clear hx0 hn0 hR0
            go_upto_region 21 with fail
            have HUz := hd ((upw_zero w5 L n0).ext ((Ext.refl [] _).alloc (.cells #[.slice (some ⟨w5.heap.size, 0, none⟩) n0 n0] 22)) (by simp))
            have HBz := hd (Blk.new' (w5.alloc (.cells (Nums (List.replicate n0 0)) 3)) 22 #[.slice (some ⟨w5.heap.size, 0, none⟩) n0 n0] (w5.heap.size + 1) (by simp))
            have HEz := hd (((Ext.refl [] w5).alloc (.cells (Nums (List.replicate n0 0)) 3)).alloc (.cells #[.slice (some ⟨w5.heap.size, 0, none⟩) n0 n0] 22))
            have HWz := hd HE5.o.size
            clear hmk hc0 hgl5
            generalize hWW : (w5.alloc (.cells (Nums (List.replicate n0 0)) 3)).alloc (.cells #[.slice (some ⟨w5.heap.size, 0, none⟩) n0 n0] 22) = W5 at *
            clear hWW
            obtain ⟨s, hs⟩ : ∃ s, w5.heap.size = s := ⟨_, rfl⟩
            have HSS := hd hs
            rw [hs] at HUz HBz
            rw [hs]
            clear hs
            go_wp2_with fail
            go_loopw [109] (fun i wr => ∃ k : Nat, i = .int .i64 k ∧ k ≤ j ∧ Hd (Ext [s] W5 wr) ∧ Hd (Ext [] w5 wr) ∧ Hd (UpW wr s 3 n0 fun i => .int .i64 (sumF L k i))) (fun i _ => (j - intOf i).toNat)
            case atStart => exact ⟨0, rfl, Nat.zero_le _, hd (Ext.refl _ _), HEz, HUz⟩
            case round =>
              obtain ⟨k, rfl, hk, HF, HE, HU⟩ := hrel
              rename World => wq1
              by_cases hlt : k < j
              · obtain ⟨A1, c1, m, xs, hx, hm, hc, hR, hm9⟩ := (HP5.o.ext HE.o).at (i := k) (by have := HL.o; omega)
                have hm0 : m = n0 := by
                  have := List.any_eq_false.1 HO.o _ (List.mem_of_getElem? hx)
                  simpa [odd1, hm, HN0.o] using this
                subst hm0
                have HX := hd hx
                have HM := hd hm
                have HRW := hd (HP5.o k _ hx).2.1
                have HNB : Hd (xs.any badW = false) := hd (by simpa [badP] using List.any_eq_false.1 HB.o _ (List.mem_of_getElem? hx))
                clear hx hm hR
                go_wp2_with fail
                clear hc
                go_loopw [115] (fun i wr => ∃ q : Nat, i = .int .i64 q ∧ q ≤ m ∧ Hd (Ext [s] W5 wr) ∧ Hd (Ext [] w5 wr) ∧ Hd (UpW wr s 3 m fun i => .int .i64 (if i < q then sumF L (k + 1) i else sumF L k i))) (fun i _ => (m - intOf i).toNat)
                case atStart => exact ⟨0, rfl, Nat.zero_le _, HF, HE, hd (HU.o.same fun q _ => by simp)⟩
                case round =>
                  obtain ⟨q, rfl, hq, HF4, HE4, HU4⟩ := hrel
                  clear HU HF HE
                  rename World => wz
                  by_cases hlq : q < m
                  · obtain ⟨x, hx⟩ : ∃ x, xs[q]? = some x := ⟨_, List.getElem?_eq_getElem (by rw [HM.o]; exact hlq)⟩
                    have HXJ := hd hx
                    rcases HRW.o.ext HE4.o (by simp) with h00 | ⟨bb, oo, rfl, hcc⟩
                    · have := HM.o; rw [h00] at this; simp at this; omega
                    have hcx := hcc q x hx
                    have hbad : badW x = false := by simpa using List.any_eq_false.1 HNB.o _ (List.mem_of_getElem? hx)
                    clear hcc hx
                    have hbx : -2147483648 ≤ x ∧ x ≤ 2147483647 := by simpa [badW, inB] using hbad
                    obtain ⟨hx1, hx2⟩ := hbx
                    have HUC := hd (show wz.cell? ⟨s, q, none⟩ = some (.int .i64 (sumF L k q)) by
                      have := HU4.o.cell hlq
                      rwa [if_neg (by omega)] at this)
                    have HBC := hd (show wz.cell? ⟨s + 1, 0, none⟩ = some (.slice (some ⟨s, 0, none⟩) m m) by rw [(HBz.o.ext HF4.o (by simp)).cell]; rfl)
                    have HSL := hd HU4.o.lt
                    have HBL := hd (HBz.o.ext HF4.o (by simp)).lt
                    have HSF := hd (sumF_succ HX.o HXJ.o)
                    obtain ⟨hy1, hy2⟩ := sumF_bd L k q
                    generalize hy : sumF L k q = y at *
                    clear hbad
                    go_wp2_with fail
                    clear hcx
                    refine wp_region_rel 9 (JE _) (Ext []) (kinds [(8, sFix (.int .i64 (w32 (y + x))))]) (by kernel_rfl) (by kernel_rfl) JE.less ?_ JE.start ?_
                    · repeat (first | exact Stays.nil | refine Stays.cons sFix.stays ?_)
                    simp only [List.take_succ_cons, List.take_zero, List.drop_succ_cons, List.drop_zero]
                    repeat
                      refine relAt_det rfl rfl ?_
                      apply Exists.intro
                      refine ⟨fun wr nr hJ => ?_, ?_⟩
                      · have q1 := hJ.held HUC.o (by simp); have q2 := hJ.held HBC.o (by simp); have q3 := Nat.lt_of_lt_of_le HSL.o hJ.size; have q4 := Nat.lt_of_lt_of_le HBL.o hJ.size
                        clear hJ
                        (go_simp; try go_bits)
                        first | rfl | exact ⟨rfl, rfl⟩
                      simp only [Act.put, List.setIfInBounds_toArray, List.set_cons_succ, List.set_cons_zero]
                    refine rel_fix rfl rfl ?_ ?_
                    · apply Exists.intro
                      apply Exists.intro
                      refine ⟨fun wr => ?_, fun wr nr hJ => ?_⟩
                      · go_simp
                        first | exact ⟨rfl, rfl⟩ | rfl
                      · exact (wrappedE_any _ _)
                    simp only [Act.put, List.setIfInBounds_toArray, List.set_cons_succ, List.set_cons_zero]
                    refine relAt_nil (fun w9 hJ hF => ?_)
                    have HJ9 := hd hJ
                    have HU9 := hd (HU4.o.ext hJ (by simp))
                    have hc9 := hJ.held HUC.o (by simp)
                    have hf9 := HU9.o.frozen q
                    have hl9 := HU9.o.lt
                    clear hF hJ
                    have HU5 := hd (HU9.o.set q (.int .i64 (w32 (y + x))) (g := fun i => .int .i64 (if i < q + 1 then sumF L (k + 1) i else sumF L k i)) (fun i hi => by
                      by_cases hij : i = q
                      · subst hij; rw [if_pos rfl, if_pos (by omega), HSF.o]
                      · rw [if_neg hij]
                        by_cases h1 : i < q
                        · rw [if_pos h1, if_pos (by omega)]
                        · rw [if_neg h1, if_neg (by omega)]))
                    have HF5 := hd (Ext.setAt (S := [s]) (b := s) (i := q) (u := .int .i64 (w32 (y + x))) (.inl (by simp)) (HF4.o.step HJ9.o (by simp)))
                    have HE5' := hd (Ext.setAt (S := []) (b := s) (i := q) (u := .int .i64 (w32 (y + x))) (.inr (by have := HSS.o; omega)) (HE4.o.trans HJ9.o))
                    go_wp2_with fail
                    go_roundw
                    case rel => exact ⟨q + 1, by go_num, by omega, HF5, HE5', HU5⟩
                    case measure => simp [intOf]; omega
                  · go_wp2_with fail
                    go_roundw
                    case rel => exact ⟨k + 1, by go_num, by omega, HF4, HE4, hd (HU4.o.same fun i hi => by rw [if_pos (by omega)])⟩
                    case measure => simp [intOf]; omega
              · have hkj : k = j := by omega
                subst hkj
                have HUn : Hd (NumsAt wq1 s 0 (sumR L)) := hd (upw_rd (t := 3) (n := n0) (by rw [HL.o]; exact HU.o) HN0.o)
                have HB1 := hd (HBz.o.ext HF.o (by simp))
                have HPG1 := hd (HPG5.o.ext HE.o)
                have HE1 := hd (HE5.o.trans HE.o)
                clear HU HF HE
                go_wp2_with fail
                refine (serves_any _).mono ?_
                rintro e w6 ⟨rfl, hE6⟩
                have HE6 := hd (HE1.o.trans hE6)
                have HPG6 := hd (HPG1.o.ext hE6)
                have HN6 := hd (HUn.o.ext hE6 (by simp))
                have HB6 := hd (HB1.o.ext hE6 (by simp))
                have HAny : Hd (L'.any (unl1 (sumR L)) = false) := hd (any_upto (n := L'.length) rfl (fun i x _ hx => by simp [unl1, HSG.o x (List.mem_of_getElem? hx)]))
                clear hE6
                go_wp2_with fail
                refine (gA_has gg k gc L' (s + 1) n0 n0 (some ⟨s, 0, none⟩) (sumR L) _ HPG6.o HLG.o (by omega) ((HB6.o.cell 0).trans rfl) (.inr ⟨s, 0, rfl, HN6.o⟩) (by rw [sumR_len]; exact HN0.o) h90).mono ?_
                rintro e w7 ⟨rfl, hE7⟩
                rw [HAny.o]
                have HE7 := hd (HE6.o.trans hE7)
                clear hE7
                go_wp2_with fail
                go_ret
                exact ⟨rfl, HE7.o⟩
end Go.Proofs.YtgbjlccgnfcnaaaGreat
