/- Package serve: settle, full, acceptable (the walk). -/
import Derived.Test.YtgbjlccgnfcnaaaGreatSvP
namespace Go.Proofs.YtgbjlccgnfcnaaaGreat
open Go.RowKit
set_option linter.unusedSimpArgs false
set_option linter.unusedVariables false
attribute [local irreducible] relAt

theorem sword_any (n : Int) (w : World) : Calls Tryz.prog 49 #[.int .i64 n] w fun e w' => e = .returned (.bool (inB n (-2147483648) 2147483647)) ∧ w = w' := by
  go_enter Tryz.func49, Tryz.ntmps49
  go_wp2_with fail
  refine (swithin_any _ _ _ _).mono ?_
  rintro e w' ⟨rfl, rfl⟩
  go_wp2_with fail
  go_ret
  exact ⟨rfl, rfl⟩
theorem full_any (s : Nat) (rec : Int) (w : World) (hs0 : ∃ v, w.cell? ⟨s, 0, none⟩ = some v) (hs : w.cell? ⟨s, 20, none⟩ = some (.int .i64 rec)) (hr : rec < 20000) :
    Calls Tryz.prog 39 #[.pointer (some ⟨s, 0, none⟩)] w fun e w' => e = .returned (.bool false) ∧ w = w' := by
  obtain ⟨v0, hv0⟩ := hs0
  have hl := World.block_lt_of_cell? w _ hs
  simp only at hl
  have h2 : decide (20000 ≤ rec) = false := by simp; omega
  go_enter Tryz.func39, Tryz.ntmps39
  go_wp2_with fail
  go_ret
  exact ⟨rfl, rfl⟩
theorem now_any (s : Nat) (now : Int) (w : World) (hs0 : ∃ v, w.cell? ⟨s, 0, none⟩ = some v) (hs : w.cell? ⟨s, 16, none⟩ = some (.int .i64 now)) :
    Calls Tryz.prog 31 #[.pointer (some ⟨s, 0, none⟩)] w fun e w' => e = .returned (.int .i64 now) ∧ w = w' := by
  obtain ⟨v0, hv0⟩ := hs0
  have hl := World.block_lt_of_cell? w _ hs
  simp only at hl
  go_enter Tryz.func31, Tryz.ntmps31
  go_wp2_with fail
  go_ret
  exact ⟨rfl, rfl⟩
set_option maxHeartbeats 4000000 in
set_option maxRecDepth 100000 in
theorem settle_any (s mb r : Nat) (w : World) (hm : TMap w mb (f1 r)) (hs : w.cell? ⟨s, 17, none⟩ = some (.map (some mb))) (hr : w.cell? ⟨r, 11, none⟩ = some (.int .i64 0)) (hs0 : ∃ v, w.cell? ⟨s, 0, none⟩ = some v) :
    Calls Tryz.prog 43 #[.pointer (some ⟨s, 0, none⟩)] w fun e w' => e = .returned (.tuple #[]) ∧ Ext [] w w' := by
  have HR := hd hr
  have hrl := World.block_lt_of_cell? w _ hr
  have hsl := World.block_lt_of_cell? w _ hs
  simp only at hrl hsl
  obtain ⟨D, hD1, hD2, hD3, hD4⟩ := hm
  have HD3 := hd hD3
  have HD4 := hd hD4
  clear hr hD2 hD3 hD4 hs0
  go_enter Tryz.func43, Tryz.ntmps43
  go_wp2_with (
    at_range; refine wpList_range_own _ rfl _ 67 rfl 3 74 keyI Tryz.underlying67 _ mb 4 D rfl hD1 ?_
    intro w3 hrg3 hg3 hs3
    have HE3 := hd ((Ext.refl [] w).grown hg3 (fun q hq => by cases hq))
    have HRG3 := hd hrg3
    clear hg3 hs3 hrg3)
  clear hD1 hs hsl
  try go_frame
  obtain ⟨rb, hrb⟩ : ∃ rb, rb = w.heap.size := ⟨_, rfl⟩
  have hrbw : w.heap.size ≤ rb := by rw [hrb]; exact Nat.le_refl _
  rw [← hrb] at HRG3 ⊢
  clear hrb
  have hrs0 : w3.ranges Tryz.prog 3 selfE mb rb 4 D (Maps.has D) (Maps.size D) := HRG3.out
  clear HRG3
  go_loopw [3] (fun _ wr => ∃ (left : Lit → Bool) (cnt : Nat), wr.ranges Tryz.prog 3 selfE mb rb 4 D left cnt ∧ Hd (Ext [] w wr) ∧ Hd (∀ x, left (.int .i64 x) = true → Maps.has D (.int .i64 x) = true)) (fun _ wr => wr.rangeLeft mb rb)
  case atStart => exact ⟨_, _, hrs0, HE3, hd fun _ h => h⟩
  case round =>
    obtain ⟨left, cnt, hrg, HEr, HL⟩ := hrel
    clear hrs0 HE3
    rename World => wk
    have HRG := hd hrg
    go_wp2_with (at_next; refine wpList_next_ranges _ rfl _ rfl 3 keyI selfE (Value.int .i64) (fun v : Value => v) (fun key kl hk => by obtain ⟨x, hx, _⟩ := Maps.keyOf_int_inv Tryz.underlying3 hk; exact ⟨x, hx⟩) (fun v y hv => ⟨v, rfl⟩) mb rb 4 D left cnt rfl hrg ?_ ?_)
    · intro hc0 hl0
      clear hrg HRG hl0 hc0
      go_wp2_with fail
      exact bodyPost_end (results_none rfl _ _ _) rfl ⟨rfl, HEr.o⟩
    · intro x c kl y1 y2 w2 cnt2 hkey hlk hv hat hrg2 hlt hg2 hs2 hen
      obtain ⟨x', ex, rfl, hwx⟩ := Maps.keyOf_int_inv Tryz.underlying3 hkey
      cases ex
      cases hv
      have hlk2 := HL.o x hlk
      rw [HD3.o] at hlk2
      have hx3 : x = 3 := by
        unfold f1 at hlk2
        split at hlk2
        · assumption
        · cases hlk2
      subst hx3
      have hct : c = .pointer (some ⟨r, 0, none⟩) := by
        have h1 := HD4.o 3 (.pointer (some ⟨r, 0, none⟩)) (by simp [f1]) (.lit (.int .i64 0))
        rw [hat] at h1
        cases h1; rfl
      subst hct
      have HEg := hd (HEr.out.grown hg2 (fun q hq => .inr (by cases hq; exact hrbw)))
      have HRG2 := hd hrg2
      have HLT := hd hlt
      have hr9 := HEg.o.held HR.o (by simp)
      have hrl2 : r < w2.heap.size := Nat.lt_of_lt_of_le hrl HEg.o.size
      clear hkey hlk hat hrg2 hlt hg2 hs2 hwx hrg hlk2
      go_wp2_with fail
      go_roundw
      case rel =>
        refine ⟨_, cnt2, HRG2.o, HEg, hd fun x hx => ?_⟩
        simp only [Bool.and_eq_true] at hx
        exact HL.o x hx.1
      case measure => rw [HRG2.out.left_eq, HRG.out.left_eq]; exact HLT.out
/-- The request that serves() makes. -/
def rq0 (q c : Nat) : Array Value := #[.int .i64 3, .int .i64 9, .slice (some ⟨q, 0, none⟩) 1 c, .int .i64 1, .int .i64 0]
theorem acc1_any (g s : Nat) (w : World) (hg : w.cell? ⟨g, 0, none⟩ = some (.pointer (some ⟨s, 0, none⟩))) (hs : w.cell? ⟨s, 15, none⟩ = some (.int .i64 8)) (hs0 : ∃ v, w.cell? ⟨s, 0, none⟩ = some v) :
    Calls Tryz.prog 64 #[.int .i64 1, .pointer (some ⟨g, 0, none⟩)] w fun e w' => e = .returned (.bool false) ∧ w = w' := by
  obtain ⟨v0, hv0⟩ := hs0
  have hgl := World.block_lt_of_cell? w _ hg
  have hsl := World.block_lt_of_cell? w _ hs
  simp only at hgl hsl
  go_enter Tryz.func64, Tryz.ntmps64
  go_wp2_with fail
  refine (swithin_any _ _ _ _).mono ?_
  rintro e w' ⟨rfl, rfl⟩
  rw [show inB 1 0 7 = true from rfl]
  go_wp2_with fail
  go_ret
  exact ⟨rfl, rfl⟩
set_option maxRecDepth 100000 in
theorem index64_any (b cap g s : Nat) (w : World) (hc : w.cell? ⟨b, 0, none⟩ = some (.int .i64 1)) (hg : w.cell? ⟨g, 0, none⟩ = some (.pointer (some ⟨s, 0, none⟩))) (hs : w.cell? ⟨s, 15, none⟩ = some (.int .i64 8)) (hs0 : ∃ v, w.cell? ⟨s, 0, none⟩ = some v) :
    Calls Tryz.prog 74 #[.slice (some ⟨b, 0, none⟩) 1 cap, .func (.func 64) #[] #[.pointer (some ⟨g, 0, none⟩)]] w fun e w' => e = .returned (.int .i64 (-1)) ∧ w = w' := by
  have hb := World.block_lt_of_cell? w _ hc
  simp only at hb
  have HA := hd (acc1_any g s w hg hs hs0)
  clear hg hs hs0
  go_enter Tryz.func74, Tryz.ntmps74
  go_wp2_with fail
  go_loop [8] (fun i => i = .int .i64 0 ∨ i = .int .i64 1) (fun i => 1 - (intOf i).toNat)
  case atStart => exact .inl rfl
  case round =>
    rcases hrel with rfl | rfl
    · go_wp2_with fail
      refine HA.o.mono ?_
      rintro e w' ⟨rfl, rfl⟩
      go_wp2_with fail
      go_round
      case rel => exact .inr rfl
      case measure => simp [intOf]
    · go_wp2_with fail
      go_ret
      exact ⟨rfl, rfl⟩
theorem contains64_any (b cap g s : Nat) (w : World) (hc : w.cell? ⟨b, 0, none⟩ = some (.int .i64 1)) (hg : w.cell? ⟨g, 0, none⟩ = some (.pointer (some ⟨s, 0, none⟩))) (hs : w.cell? ⟨s, 15, none⟩ = some (.int .i64 8)) (hs0 : ∃ v, w.cell? ⟨s, 0, none⟩ = some v) :
    Calls Tryz.prog 53 #[.slice (some ⟨b, 0, none⟩) 1 cap, .func (.func 64) #[] #[.pointer (some ⟨g, 0, none⟩)]] w fun e w' => e = .returned (.bool false) ∧ w = w' := by
  go_enter Tryz.func53, Tryz.ntmps53
  go_wp2_with fail
  refine (index64_any b cap g s w hc hg hs hs0).mono ?_
  rintro e w' ⟨rfl, rfl⟩
  go_wp2_with fail
  go_ret
  exact ⟨rfl, rfl⟩
set_option maxHeartbeats 4000000 in
set_option maxRecDepth 100000 in
/-- A new server accepts the request. -/
theorem acceptable_any (base s mb pb q c : Nat) (D : Dm) (syn : Int) (lv : Value) (ln : Nat) (w : World) (h : SrvIn w base s mb pb D 0 0 syn lv ln) (hm : TMap w mb (fun _ => none)) (hq : w.cell? ⟨q, 0, none⟩ = some (.int .i64 1)) :
    Calls Tryz.prog 37 #[.pointer (some ⟨s, 0, none⟩), .agg (rq0 q c)] w fun e w' => e = .returned (.int .i64 0) ∧ Ext [] w w' := by
  obtain ⟨b0, b1, b2, b3, b4, b5, b6, c0, c1, c2, c3, c4, c5, c6⟩ := D
  simp only [rq0]
  go_enter Tryz.func37, Tryz.ntmps37
  go_wp2_with fail
  generalize hW0 : World.alloc _ _ = W0
  have HE0 := hd (show Ext [] w W0 by subst hW0; exact ((Ext.refl _ _).alloc _).alloc _)
  have HX1 := hd (show Blk W0 w.heap.size 33 #[.pointer (some ⟨s, 0, none⟩)] by subst hW0; exact (Blk.new w _ _).alloc _)
  have HX2 := hd (show Blk W0 (w.heap.size + 1) 44 #[.int .i64 3, .int .i64 9, .slice (some ⟨q, 0, none⟩) 1 c, .int .i64 1, .int .i64 0] by subst hW0; exact Blk.new' _ _ _ _ (by simp))
  have HS0 := hd (h.srv.ext HE0.o (by simp))
  have HM0 := hd (hm.ext HE0.o (by simp))
  have HQ0 := hd (HE0.o.held hq (by simp))
  have qx1 := HX1.o.cell
  have qx1l := HX1.o.lt
  have qx2 := HX2.o.cell
  have qx2l := HX2.o.lt
  have qs := HS0.o.cell
  have qsl := HS0.o.lt
  simp only [svCells] at qs
  clear hW0 h hm hq
  go_wp2_with (first | (go_at_call 28; refine (swithin_any _ _ _ _).mono ?_; rintro e w' ⟨rfl, rfl⟩; rw [show inB _ _ _ = true from rfl]) | (go_at_call 49; refine (sword_any _ _).mono ?_; rintro e w' ⟨rfl, rfl⟩; rw [show inB _ _ _ = true from rfl]))
  refine (contains64_any q c w.heap.size s W0 HQ0.o (qx1 0) (qs 15) ⟨_, qs 0⟩).mono ?_
  rintro e w' ⟨rfl, rfl⟩
  go_wp2_with fail
  clear qx1 qx1l qx2 qx2l qs qsl
  refine wp_region_rel 6 (JE _) (Ext []) (kinds []) (by kernel_rfl) (by kernel_rfl) JE.less ?_ JE.start ?_
  · repeat (first | exact Stays.nil | refine Stays.cons sFix.stays ?_)
  simp only [List.take_succ_cons, List.take_zero, List.drop_succ_cons, List.drop_zero]
  repeat
    refine relAt_det rfl rfl ?_
    apply Exists.intro
    refine ⟨fun wr nr hJ => ?_, ?_⟩
    · have qx1 := (HX1.o.ext hJ (by simp)).cell; have qx1l := (HX1.o.ext hJ (by simp)).lt; have qx2 := (HX2.o.ext hJ (by simp)).cell; have qx2l := (HX2.o.ext hJ (by simp)).lt; have qs := (HS0.o.ext hJ (by simp)).cell; have qsl := (HS0.o.ext hJ (by simp)).lt; simp only [svCells] at qs
      clear hJ
      (go_simp; try go_bits)
      first | rfl | exact ⟨rfl, rfl⟩
    simp only [Act.put, List.setIfInBounds_toArray, List.set_cons_succ, List.set_cons_zero]
  refine relAt_nil (fun w1 hJ hF => ?_)
  have HJ1 := hd hJ
  have qx1 := (HX1.o.ext HJ1.o (by simp)).cell
  have qx1l := (HX1.o.ext HJ1.o (by simp)).lt
  have qx2 := (HX2.o.ext HJ1.o (by simp)).cell
  have qx2l := (HX2.o.ext HJ1.o (by simp)).lt
  have qs := (HS0.o.ext HJ1.o (by simp)).cell
  have qsl := (HS0.o.ext HJ1.o (by simp)).lt
  simp only [svCells] at qs
  have HLK := (HM0.o.ext HJ1.o (by simp)).look 3 (by omega)
  simp only [Option.getD_none, zTr] at HLK
  clear hF hJ
  go_wp2_with fail
  clear qx1 qx1l qx2 qx2l qs qsl HLK
  refine wp_region_rel 6 (JE _) (Ext []) (kinds []) (by kernel_rfl) (by kernel_rfl) JE.less ?_ JE.start ?_
  · repeat (first | exact Stays.nil | refine Stays.cons sFix.stays ?_)
  simp only [List.take_succ_cons, List.take_zero, List.drop_succ_cons, List.drop_zero]
  repeat
    refine relAt_det rfl rfl ?_
    apply Exists.intro
    refine ⟨fun wr nr hJ => ?_, ?_⟩
    · have qx1 := (HX1.o.ext (Ext.trans HJ1.o hJ) (by simp)).cell; have qx1l := (HX1.o.ext (Ext.trans HJ1.o hJ) (by simp)).lt; have qx2 := (HX2.o.ext (Ext.trans HJ1.o hJ) (by simp)).cell; have qx2l := (HX2.o.ext (Ext.trans HJ1.o hJ) (by simp)).lt; have qs := (HS0.o.ext (Ext.trans HJ1.o hJ) (by simp)).cell; have qsl := (HS0.o.ext (Ext.trans HJ1.o hJ) (by simp)).lt; simp only [svCells] at qs
      clear hJ
      (go_simp; try go_bits)
      first | rfl | exact ⟨rfl, rfl⟩
    simp only [Act.put, List.setIfInBounds_toArray, List.set_cons_succ, List.set_cons_zero]
  refine relAt_nil (fun w2 hJ hF => ?_)
  have HJ2 := hd (Ext.trans HJ1.o hJ)
  have qx1 := (HX1.o.ext HJ2.o (by simp)).cell
  have qx1l := (HX1.o.ext HJ2.o (by simp)).lt
  have qx2 := (HX2.o.ext HJ2.o (by simp)).cell
  have qx2l := (HX2.o.ext HJ2.o (by simp)).lt
  have qs := (HS0.o.ext HJ2.o (by simp)).cell
  have qsl := (HS0.o.ext HJ2.o (by simp)).lt
  simp only [svCells] at qs
  have HLK := (HM0.o.ext HJ2.o (by simp)).look 3 (by omega)
  simp only [Option.getD_none, zTr] at HLK
  clear hF hJ
  go_wp2_with fail
  clear qx1 qx1l qx2 qx2l qs qsl HLK
  refine wp_region_rel 17 (JE _) (Ext []) (kinds []) (by kernel_rfl) (by kernel_rfl) JE.less ?_ JE.start ?_
  · repeat (first | exact Stays.nil | refine Stays.cons sFix.stays ?_)
  simp only [List.take_succ_cons, List.take_zero, List.drop_succ_cons, List.drop_zero]
  repeat
    refine relAt_det rfl rfl ?_
    apply Exists.intro
    refine ⟨fun wr nr hJ => ?_, ?_⟩
    · have qx1 := (HX1.o.ext (Ext.trans HJ2.o hJ) (by simp)).cell; have qx1l := (HX1.o.ext (Ext.trans HJ2.o hJ) (by simp)).lt; have qx2 := (HX2.o.ext (Ext.trans HJ2.o hJ) (by simp)).cell; have qx2l := (HX2.o.ext (Ext.trans HJ2.o hJ) (by simp)).lt; have qs := (HS0.o.ext (Ext.trans HJ2.o hJ) (by simp)).cell; have qsl := (HS0.o.ext (Ext.trans HJ2.o hJ) (by simp)).lt; simp only [svCells] at qs
      clear hJ
      (go_simp; try go_bits)
      first | rfl | exact ⟨rfl, rfl⟩
    simp only [Act.put, List.setIfInBounds_toArray, List.set_cons_succ, List.set_cons_zero]
  refine relAt_nil (fun w3 hJ hF => ?_)
  have HJ3 := hd (Ext.trans HJ2.o hJ)
  have qx1 := (HX1.o.ext HJ3.o (by simp)).cell
  have qx1l := (HX1.o.ext HJ3.o (by simp)).lt
  have qx2 := (HX2.o.ext HJ3.o (by simp)).cell
  have qx2l := (HX2.o.ext HJ3.o (by simp)).lt
  have qs := (HS0.o.ext HJ3.o (by simp)).cell
  have qsl := (HS0.o.ext HJ3.o (by simp)).lt
  simp only [svCells] at qs
  have HLK := (HM0.o.ext HJ3.o (by simp)).look 3 (by omega)
  simp only [Option.getD_none, zTr] at HLK
  clear hF hJ
  go_wp2_with fail
  clear qx1 qx1l qx2 qx2l qs qsl HLK
  refine wp_region_rel 8 (JE _) (Ext []) (kinds [(1, sFix (.slice none 0 0))]) (by kernel_rfl) (by kernel_rfl) JE.less ?_ JE.start ?_
  · repeat (first | exact Stays.nil | refine Stays.cons sFix.stays ?_)
  simp only [List.take_succ_cons, List.take_zero, List.drop_succ_cons, List.drop_zero]
  repeat
    refine relAt_det rfl rfl ?_
    apply Exists.intro
    refine ⟨fun wr nr hJ => ?_, ?_⟩
    · have qx1 := (HX1.o.ext (Ext.trans HJ3.o hJ) (by simp)).cell; have qx1l := (HX1.o.ext (Ext.trans HJ3.o hJ) (by simp)).lt; have qx2 := (HX2.o.ext (Ext.trans HJ3.o hJ) (by simp)).cell; have qx2l := (HX2.o.ext (Ext.trans HJ3.o hJ) (by simp)).lt; have qs := (HS0.o.ext (Ext.trans HJ3.o hJ) (by simp)).cell; have qsl := (HS0.o.ext (Ext.trans HJ3.o hJ) (by simp)).lt; simp only [svCells] at qs
      clear hJ
      (go_simp; try go_bits)
      first | rfl | exact ⟨rfl, rfl⟩
    simp only [Act.put, List.setIfInBounds_toArray, List.set_cons_succ, List.set_cons_zero]
  refine rel_fix rfl rfl ?_ ?_
  · apply Exists.intro
    apply Exists.intro
    refine ⟨fun wr => ?_, fun wr nr hJ => ?_⟩
    · go_simp
      first | exact ⟨rfl, rfl⟩ | rfl
    · exact (open0_any s mb wr (HM0.o.ext (Ext.trans HJ3.o hJ) (by simp)) ((HS0.o.ext (Ext.trans HJ3.o hJ) (by simp)).cell 17))
  simp only [Act.put, List.setIfInBounds_toArray, List.set_cons_succ, List.set_cons_zero]
  repeat
    refine relAt_det rfl rfl ?_
    apply Exists.intro
    refine ⟨fun wr nr hJ => ?_, ?_⟩
    · have qx1 := (HX1.o.ext (Ext.trans HJ3.o hJ) (by simp)).cell; have qx1l := (HX1.o.ext (Ext.trans HJ3.o hJ) (by simp)).lt; have qx2 := (HX2.o.ext (Ext.trans HJ3.o hJ) (by simp)).cell; have qx2l := (HX2.o.ext (Ext.trans HJ3.o hJ) (by simp)).lt; have qs := (HS0.o.ext (Ext.trans HJ3.o hJ) (by simp)).cell; have qsl := (HS0.o.ext (Ext.trans HJ3.o hJ) (by simp)).lt; simp only [svCells] at qs
      clear hJ
      (go_simp; try go_bits)
      first | rfl | exact ⟨rfl, rfl⟩
    simp only [Act.put, List.setIfInBounds_toArray, List.set_cons_succ, List.set_cons_zero]
  refine relAt_nil (fun w4 hJ hF => ?_)
  have HJ4 := hd (Ext.trans HJ3.o hJ)
  have qx1 := (HX1.o.ext HJ4.o (by simp)).cell
  have qx1l := (HX1.o.ext HJ4.o (by simp)).lt
  have qs := (HS0.o.ext HJ4.o (by simp)).cell
  have qsl := (HS0.o.ext HJ4.o (by simp)).lt
  simp only [svCells] at qs
  clear hF hJ
  go_wp2_with fail
  refine (full_any s 0 w4 ⟨_, qs 0⟩ (qs 20) (by omega)).mono ?_
  rintro e w' ⟨rfl, rfl⟩
  go_wp2_with fail
  go_ret
  exact ⟨rfl, HE0.o.trans HJ4.o⟩
end Go.Proofs.YtgbjlccgnfcnaaaGreat
