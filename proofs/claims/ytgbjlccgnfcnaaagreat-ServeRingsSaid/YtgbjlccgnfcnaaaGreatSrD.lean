/- Ring: the walk. -/
import Derived.Test.YtgbjlccgnfcnaaaGreatSrC
namespace Go.Proofs.YtgbjlccgnfcnaaaGreat
open Go.RowKit
set_option linter.unusedSimpArgs false
set_option linter.unusedVariables false

theorem rowInfo : ∃ i0 : TypeInfo, (Tryz.prog).info? 22 = some i0 ∧ i0.zero = some (.slice none 0 0) ∧ i0.size = 1 ∧ i0.bytes = 24 :=
  info_parts (show ((Tryz.prog).info? 22).map (fun i => (i.zero, i.size, i.bytes)) = some (some (.slice none 0 0), 1, 24) by kernel_rfl)
def RingBad (L : List Pt) (w : World) (e : Ending) (w' : World) : Prop := e = .returned (.tuple #[.slice none 0 0, .int .i64 0, .int .i64 (ringE L)]) ∧ Ext [] w w' ∧ ringE L ≠ 0
/-- Lists of the same ints, n of each. -/
def Same (w : World) (n : Nat) (s : List Int) (L : List Pt) : Prop := ∀ x ∈ L, x.xs = s ∧ RdB w x.A s
def rowVals (n : Nat) (L : List Pt) : List Value := L.map fun x => .slice x.A n x.c
def RingGood (L : List Pt) (n : Nat) (w : World) (e : Ending) (w' : World) : Prop := ∃ (g c : Nat) (L' : List Pt), e = .returned (.tuple #[.slice (some ⟨g, 0, none⟩) n c, .int .i64 (2 * ((n : Int) - 1)), .int .i64 0]) ∧ Ext [] w w' ∧ ringE L = 0 ∧ PtsIn w' g L' ∧ L'.length = n ∧ ∀ x ∈ L', x.xs = sumR L
def RingP (L : List Pt) (n : Nat) (w : World) (e : Ending) (w' : World) : Prop := RingBad L w e w' ∨ RingGood L n w e w'
set_option maxHeartbeats 2000000 in
set_option maxRecDepth 100000 in
theorem ring_any (A : Option Addr) (b n cap : Nat) (L : List Pt) (w : World) (hA : 0 < n → A = some ⟨b, 0, none⟩) (h : PtsIn w b L) (hl : L.length = n) (hn9 : n ≤ 1000) :
    Calls Tryz.prog 23 #[.slice A n cap] w (RingP L n w) := by
  have HP := hd h
  have HL := hd hl
  clear h hl
  by_cases h0 : n = 0
  · subst h0
    have HV : Hd (ringE L = 9) := hd (by unfold ringE; rw [if_pos (by rw [HL.o]; omega)])
    have hI : inB 0 1 4 = false := by simp [inB]
    go_enter Tryz.func23, Tryz.ntmps23
    go_wp2_with fail
    refine (swithin_any _ _ _ _).mono ?_
    rintro e w' ⟨rfl, rfl⟩
    rw [show inB _ 1 4 = false from hI]
    go_wp2_with fail
    go_ret3
    exact .inl ⟨by rw [HV.o]; rfl, (Ext.refl _ _).alloc _, by rw [HV.o]; omega⟩
  · obtain rfl := hA (by omega)
    clear hA
    by_cases h4 : n ≤ 4
    · have hI : inB n 1 4 = true := by simp [inB]; omega
      have hH1 := hd (rA_has b n cap L (w.alloc (.cells #[.slice (some ⟨b, 0, none⟩) n cap] 51)) (HP.o.ext ((Ext.refl [] w).alloc _)) HL.o (by omega))
      have HE0 := hd ((Ext.refl [] w).alloc (.cells #[.slice (some ⟨b, 0, none⟩) n cap] 51))
      have HB0 := hd (Blk.new w 51 #[.slice (some ⟨b, 0, none⟩) n cap])
      obtain ⟨A0, d0, n0, xs0, hx0, hn0, hc0, hR0, h90⟩ := HP.o.at (i := 0) (by have := HL.o; omega)
      have HN0 := hd (show len0 L = n0 by rw [len0_of hx0, hn0])
      have HC0 := hd hc0
      clear hx0 hn0 hc0 hR0
      go_enter Tryz.func23, Tryz.ntmps23
      go_wp2_with fail
      refine (swithin_any _ _ _ _).mono ?_
      rintro e w' ⟨rfl, rfl⟩
      rw [hI]
      go_wp2_with fail
      refine hH1.o.mono ?_
      rintro e w1 ⟨rfl, hE1⟩
      have HE1 := hd (HE0.o.trans hE1)
      have HB1 := hd (HB0.o.ext hE1 (by simp))
      clear hE1 HB0
      cases hp1 : L.any over1
      · have HQ1 := hd hp1
        clear hp1
        have hb1 := HB1.o.cell 0
        simp only [List.getElem?_toArray, List.getElem?_cons_zero] at hb1
        go_wp2_with fail
        refine (rB_has b n cap L w.heap.size b n cap n0 d0 A0 w1 (HP.o.ext HE1.o) HL.o (by omega) hb1 (by omega) (HE1.o.held HC0.o (by simp)) (by omega)).mono ?_
        rintro e w2 ⟨rfl, hE2⟩
        have HE2 := hd (HE1.o.trans hE2)
        have HB2 := hd (HB1.o.ext hE2 (by simp))
        have hb2 := HB2.o.cell 0
        simp only [List.getElem?_toArray, List.getElem?_cons_zero] at hb2
        clear hE2 HB1 hb1
        cases hp2 : L.any (odd1 n0)
        · have HQ2 := hd hp2
          clear hp2
          have hc0 := HE2.o.held HC0.o (by simp)
          have hmk := make_nums n0 (by omega) w2
          have HU := hd (upw_zero w2 L n0)
          have HE3 := hd (HE2.o.alloc (.cells (Nums (List.replicate n0 0)) 3))
          have HB3 := hd (HB2.o.alloc (.cells (Nums (List.replicate n0 0)) 3))
          have hsw := HB2.o.lt
          generalize World.alloc w2 _ = w3 at *
          generalize hs : w2.heap.size = s at *
          have HC3 : Hd (∀ w', Ext [s] w3 w' → w'.cell? ⟨w.heap.size, 0, none⟩ = some (.slice (some ⟨b, 0, none⟩) n cap)) := hd fun w' h => by rw [(HB3.o.ext h (by simp; omega)).cell]; rfl
          have hb3 := HC3.o _ (Ext.refl _ _)
          go_wp2_with fail
          clear hc0 hb2 hb3 hmk HB2 HE2
          go_loopw [27] (fun i wr => ∃ k : Nat, i = .int .i64 k ∧ k ≤ n ∧ Hd (Ext [s] w3 wr) ∧ Hd (Ext [] w wr) ∧ Hd (UpW wr s 3 n0 fun i => .int .i64 (sumF L k i)) ∧ Hd (∀ (j : Nat) (x : Pt), j < k → L[j]? = some x → badP x = false)) (fun i _ => (n - intOf i).toNat)
          case atStart => exact ⟨0, rfl, Nat.zero_le _, hd (Ext.refl _ _), HE3, HU, hd fun j x hj => absurd hj (by omega)⟩
          case round =>
            obtain ⟨k, rfl, hk, HF, HE, HU2, HN⟩ := hrel
            clear HU
            rename World => wq
            by_cases hlt : k < n
            · obtain ⟨A, c, m, xs, hx, hm, hc, hR, hm9⟩ := (HP.o.ext HE.o).at (i := k) (by have := HL.o; omega)
              have hm0 : m = n0 := by
                have := List.any_eq_false.1 HQ2.o _ (List.mem_of_getElem? hx)
                simpa [odd1, hm] using this
              subst hm0
              have HX := hd hx
              have HM := hd hm
              have HRW := hd (HP.o k _ hx).2.1
              clear hx hm hR
              go_wp2_with fail
              clear hc
              go_loopw [33] (fun i wr => ∃ j : Nat, i = .int .i64 j ∧ j ≤ m ∧ Hd (Ext [s] w3 wr) ∧ Hd (Ext [] w wr) ∧ Hd (UpW wr s 3 m fun i => .int .i64 (if i < j then sumF L (k + 1) i else sumF L k i)) ∧ Hd (∀ (q : Nat) (x : Int), q < j → xs[q]? = some x → badW x = false)) (fun i _ => (m - intOf i).toNat)
              case atStart => exact ⟨0, rfl, Nat.zero_le _, HF, HE, hd (HU2.o.same fun j _ => by simp), hd fun j x hj => absurd hj (by omega)⟩
              case round =>
                obtain ⟨j, rfl, hj, HF4, HE4, HU4, HN4⟩ := hrel
                clear HU2 HF HE
                rename World => wz
                by_cases hlj : j < m
                · obtain ⟨x, hx⟩ : ∃ x, xs[j]? = some x := ⟨_, List.getElem?_eq_getElem (by rw [HM.o]; exact hlj)⟩
                  have HXJ := hd hx
                  rcases HRW.o.ext HE4.o (by simp) with h00 | ⟨bb, oo, rfl, hcc⟩
                  · have := HM.o; rw [h00] at this; simp at this; omega
                  have hcx := hcc j x hx
                  clear hcc hx
                  cases hbad : badW x
                  · have hbx : -2147483648 ≤ x ∧ x ≤ 2147483647 := by simpa [badW, inB] using hbad
                    obtain ⟨hx1, hx2⟩ := hbx
                    have HQ := hd hbad
                    have hu := HU4.o.cell hlj
                    rw [if_neg (by omega)] at hu
                    have hf := HU4.o.frozen j
                    have hsl := HU4.o.lt
                    have HSF := hd (sumF_succ HX.o HXJ.o)
                    obtain ⟨hy1, hy2⟩ := sumF_bd L k j
                    generalize hy : sumF L k j = y at *
                    clear hbad
                    go_wp2_with fail
                    refine (sisWord_any x _).mono ?_
                    rintro e w9 ⟨rfl, rfl⟩
                    rw [HQ.o]
                    go_wp2_with fail
                    refine (wrap_any _ _).mono ?_
                    rintro e w9 ⟨rfl, rfl⟩
                    have HU5 := hd (HU4.o.set j (.int .i64 (w32 (y + x))) (g := fun i => .int .i64 (if i < j + 1 then sumF L (k + 1) i else sumF L k i)) (fun i hi => by
                      by_cases hij : i = j
                      · subst hij; rw [if_pos rfl, if_pos (by omega), HSF.o]
                      · rw [if_neg hij]
                        by_cases h1 : i < j
                        · rw [if_pos h1, if_pos (by omega)]
                        · rw [if_neg h1, if_neg (by omega)]))
                    have HF5 := hd (HF4.o.setAt (i := j) (u := .int .i64 (w32 (y + x))) (b := s) (.inl (by simp)))
                    have HE5 := hd (HE4.o.setAt (i := j) (u := .int .i64 (w32 (y + x))) (b := s) (.inr (by omega)))
                    go_wp2_with fail
                    go_roundw
                    case rel =>
                      refine ⟨j + 1, by go_num, by omega, HF5, HE5, HU5, hd fun q z hq hz => ?_⟩
                      rcases Nat.lt_or_ge q j with h1 | h1
                      · exact HN4.o q z h1 hz
                      · have : q = j := by omega
                        subst this
                        have := HXJ.o.symm.trans hz
                        cases this
                        exact HQ.o
                    case measure => simp [intOf]; omega
                  · have HQ := hd hbad
                    have HV : Hd (ringE L = 9) := hd (by unfold ringE; rw [if_neg (by rw [HL.o]; omega), if_neg (by rw [HQ1.o]; simp), HN0.o, if_neg (by rw [HQ2.o]; simp), if_pos (any_at HX.o (any_at HXJ.o HQ.o))])
                    clear hbad
                    go_wp2_with fail
                    refine (sisWord_any x _).mono ?_
                    rintro e w9 ⟨rfl, rfl⟩
                    rw [HQ.o]
                    go_wp2_with fail
                    go_ret3
                    exact .inl ⟨by rw [HV.o]; rfl, HE4.o, by rw [HV.o]; omega⟩
                · go_wp2_with fail
                  go_roundw
                  case rel =>
                    refine ⟨k + 1, by go_num, by omega, HF4, HE4, hd (HU4.o.same fun i hi => by rw [if_pos (by omega)]), hd fun q z hq hz => ?_⟩
                    rcases Nat.lt_or_ge q k with h1 | h1
                    · exact HN.o q z h1 hz
                    · have : q = k := by omega
                      subst this
                      have := HX.o.symm.trans hz
                      cases this
                      exact any_upto HM.o (fun i y hi hy => HN4.o i y (by omega) hy)
                  case measure => simp [intOf]; omega
            · have hkn : k = n := by omega
              subst hkn
              have HV : Hd (ringE L = 0) := hd (by unfold ringE; rw [if_neg (by rw [HL.o]; omega), if_neg (by rw [HQ1.o]; simp), HN0.o, if_neg (by rw [HQ2.o]; simp), if_neg (by rw [any_upto HL.o (fun j x hj hx => HN.o j x (by omega) hx)]; simp)])
              have HUn : Hd (UpW wq s 3 n0 fun i => .int .i64 (sumF L L.length i)) := hd (by rw [HL.o]; exact HU2.o)
              have hbk := HC3.o wq HF.o
              have hbl := World.block_lt_of_cell? _ _ hbk
              simp only at hbl
              have HBK := hd hbk
              have hsl := HUn.o.lt
              obtain ⟨i0, hi0, hz0, hz1, hz2⟩ := rowInfo
              clear HU2 HF HN HC3 HB3 HE3
              go_wp2_with fail
              clear hbk
              go_loopw [10, 55] (fun v i wr => ∃ (j : Nat) (A : Option Addr) (c : Nat) (L' : List Pt), i = .int .i64 j ∧ v = .slice A j c ∧ j ≤ k ∧ Hd (Ext [] wq wr) ∧ Hd (wr.ownsRow wq.heap.size 22 1 (.slice A j c) j (rowVals n0 L')) ∧ Hd (Same wr n0 (sumR L) L')) (fun _ i _ => (k - intOf i).toNat)
              case atStart => exact ⟨0, none, 0, [], rfl, rfl, Nat.zero_le _, hd (Ext.refl _ _), hd ⟨rfl, .inl ⟨rfl, rfl⟩⟩, hd fun x hx => by cases hx⟩
              case round =>
                obtain ⟨j, A, c, L', rfl, rfl, hj, HE4, HO, HS⟩ := hrel
                rename World => wz
                have hbk := HE4.o.held HBK.o (by simp)
                have hzz := HE4.o.size
                by_cases hlj : j < k
                · have HNA := hd (upw_rd (HUn.o.ext HE4.o (by simp)) HN0.o)
                  clear hbk
                  go_wp2_with fail
                  refine (cloneAll_any s 0 n0 n0 (sumR L) wz HNA.o (by rw [sumR_len]; exact HN0.o) (by omega)).mono ?_
                  rintro e w9 ⟨A9, c9, rfl, hE9, hR9⟩
                  have hz9 := hE9.size
                  have HNW := hd (cell_one_new w9 (.slice A9 n0 c9) 22)
                  have HEA := hd (hE9.alloc (.cells #[.slice A9 n0 c9] 22))
                  have HOA := hd (own_ext HO.o HEA.o (by simp))
                  have HRA := hd (hR9.ext ((Ext.refl [] w9).alloc (.cells #[.slice A9 n0 c9] 22)))
                  clear hE9 hR9
                  go_wp2_with (
                    refine wpList_append_lies _ rfl _ _ 51 rfl wq.heap.size 22 i0 _ 1 24 Tryz.underlying51 hi0 hz0 hz1 hz2 rfl (by decide) _ j _ rfl HOA.o ⟨w9.heap.size, 0, none⟩ 1 1 [.slice A9 n0 c9] rfl rfl HNW.o ?c2 (by omega) ?c3 ?c4 ?c5 _ rfl ?_
                    case c2 => intro u hu; rw [List.mem_singleton.1 hu]; rfl
                    case c3 => unfold maxLen; omega
                    case c4 => omega
                    case c5 => simp; omega
                    intro g8 c8 w8 ho8 hg8 hi8 ha8
                    have HO8 := hd ho8
                    have HE8 := hd ((HE4.o.trans HEA.o).grown hg8 (fun q hq => .inr (own_base HO.out q hq)))
                    have HS8 : Hd (Same w8 n0 (sumR L) (L' ++ [⟨A9, c9, sumR L⟩])) := hd fun x hx => by
                      rcases List.mem_append.1 hx with h | h
                      · exact ⟨(HS.o x h).1, ((HS.o x h).2.ext HEA.o).grown HOA.o (by decide) hg8⟩
                      · rw [List.mem_singleton.1 h]; exact ⟨rfl, HRA.o.grown HOA.o (by decide) hg8⟩
                    clear ho8 hg8 hi8)
                  go_roundw
                  case rel => exact ⟨j + 1, _, c8, L' ++ [⟨A9, c9, sumR L⟩], by go_num, rfl, by omega, HE8, hd (by unfold rowVals; rw [List.map_append]; exact HO8.o), HS8⟩
                  case measure => simp [intOf]; omega
                · have hjk : j = k := by omega
                  subst hjk
                  obtain ⟨A', c', hAA, hcc, hg⟩ := own_form HO.o
                  cases hAA
                  obtain ⟨g, rfl, hg1, hg2⟩ := hg (by omega)
                  have HLen : Hd (L'.length = j) := hd (by have := HO.o.1; simpa [rowVals] using this)
                  have HPI : Hd (PtsIn wz g L') := hd fun i x hx => by
                    obtain ⟨hs1, hs2⟩ := HS.o x (List.mem_of_getElem? hx)
                    have hxl : x.xs.length = n0 := by rw [hs1, sumR_len]; exact HN0.o
                    refine ⟨?_, by rw [hs1]; exact hs2.rd, by omega⟩
                    rw [hxl]
                    exact row_cells HO.o i _ (by unfold rowVals; rw [List.getElem?_map, hx]; rfl)
                  go_wp2_with fail
                  go_quiet (fail)
                  go_wp2_with fail
                  go_ret3
                  refine .inr ⟨g, c, L', ?_, ?_, HV.o, ?_, HLen.o, fun x hx => (HS.o x hx).1⟩
                  · rfl
                  · exact (HE.o.trans HE4.o).drewN _
                  · exact HPI.o
        · have HV : Hd (ringE L = 3) := hd (by unfold ringE; rw [if_neg (by rw [HL.o]; omega), if_neg (by rw [HQ1.o]; simp), HN0.o, if_pos hp2])
          clear hp2
          go_wp2_with fail
          go_ret3
          exact .inl ⟨by rw [HV.o]; rfl, HE2.o, by rw [HV.o]; omega⟩
      · have HV : Hd (ringE L = 2) := hd (by unfold ringE; rw [if_neg (by rw [HL.o]; omega), if_pos hp1])
        clear hp1
        go_wp2_with fail
        go_ret3
        exact .inl ⟨by rw [HV.o]; rfl, HE1.o, by rw [HV.o]; omega⟩
    · have HV : Hd (ringE L = 9) := hd (by unfold ringE; rw [if_pos (by rw [HL.o]; omega)])
      have hI : inB n 1 4 = false := by simp [inB]; omega
      go_enter Tryz.func23, Tryz.ntmps23
      go_wp2_with fail
      refine (swithin_any _ _ _ _).mono ?_
      rintro e w' ⟨rfl, rfl⟩
      rw [hI]
      go_wp2_with fail
      go_ret3
      exact .inl ⟨by rw [HV.o]; rfl, (Ext.refl _ _).alloc _, by rw [HV.o]; omega⟩
end Go.Proofs.YtgbjlccgnfcnaaaGreat
