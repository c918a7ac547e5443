/- Package serve: work, Tick and Cancel at the one request (the walk). -/
import Derived.Test.YtgbjlccgnfcnaaaGreatSvU
namespace Go.Proofs.YtgbjlccgnfcnaaaGreat
open Go.RowKit
set_option linter.unusedSimpArgs false
set_option linter.unusedVariables false
attribute [local irreducible] relAt

set_option maxHeartbeats 8000000 in
set_option maxRecDepth 100000 in
theorem work_any (base s mb pb r tg tc ln : Nat) (D : Dm) (now rec syn : Int) (lv pv : Value) (wk ls : Bool) (w : World) (bh : Value) (h : SubIn w base s mb pb r D now rec syn lv ln pv tg tc (.slice none 0 0) 0 wk ls pg0) :
    Calls Tryz.prog 42 #[.pointer (some ⟨s, 0, none⟩), .pointer (some ⟨r, 0, none⟩), bh] w fun e w' => e = .returned (.tuple #[]) ∧ CompP base s mb pb r tg tc ln D now rec syn lv pv ls w w' := by
  have H := hd h
  clear h
  go_enter Tryz.func42, Tryz.ntmps42
  go_wp2_with fail
  refine (shared_any base s mb pb r tg tc ln D now rec syn lv pv (.slice none 0 0) wk ls pg0 w H.o).mono ?_
  rintro e w1 ⟨rfl, hE⟩
  have H1 := hd (H.o.ext hE)
  have HE1 := hd hE
  clear hE
  go_wp2_with fail
  go_loopw [7] (fun k wr => k = .bool false ∧ wr = w1) (fun _ _ => 0)
  case atStart => exact ⟨rfl, rfl⟩
  case round =>
    obtain ⟨rfl, rfl⟩ := hrel
    rename World => w1
    go_wp2_with fail
    refine wp_region_rel 9 (JE _) (Ext []) (kinds []) (by kernel_rfl) (by kernel_rfl) JE.less ?_ JE.start ?_
    · repeat (first | exact Stays.nil | refine Stays.cons sFix.stays ?_)
    simp only [List.take_succ_cons, List.take_zero, List.drop_succ_cons, List.drop_zero]
    repeat
      refine relAt_det rfl rfl ?_
      apply Exists.intro
      refine ⟨fun wr nr hJ => ?_, ?_⟩
      · have hh := H1.o.ext hJ; have qr := hh.rq.cell; have qrl := hh.rq.lt; simp only [rqCells] at qr; clear hh
        clear hJ
        (go_simp; try go_bits)
        first | rfl | exact ⟨rfl, rfl⟩
      simp only [Act.put, List.setIfInBounds_toArray, List.set_cons_succ, List.set_cons_zero]
    refine relAt_nil (fun w2 hJ hF => ?_)
    have H2 := hd (H1.o.ext hJ)
    have HE2 := hd (HE1.o.trans hJ)
    clear hF hJ
    go_wp2_with fail
    refine (compute_any base s mb pb r tg tc ln D now rec syn lv pv wk ls w2 bh H2.o).mono ?_
    rintro e w3 ⟨rfl, hv, pgc, h3, hE3⟩
    have H3 := hd h3
    have HE3 := hd ((Ext.nil (S := [r, pb]) HE2.o).trans hE3)
    clear h3 hE3
    go_wp2_with fail
    first | exact bodyPost_end (results_none rfl _ _ _) rfl ⟨rfl, hv, pgc, H3.o, HE3.o⟩ | exact bodyPost_ret (results_none rfl _ _ _) rfl ⟨rfl, hv, pgc, H3.o, HE3.o⟩
/-- The server has had its one tick. -/
def TickP (base s mb pb r tg tc : Nat) (D : Dm) (syn : Int) (pv : Value) (w w' : World) : Prop := ∃ lv ln hv pgc, SubIn w' base s mb pb r D 1 2 syn lv ln pv tg tc hv 1 true false pgc ∧ Kp base [s, r, pb] w w'
set_option maxHeartbeats 8000000 in
set_option maxRecDepth 100000 in
theorem tick_any (base s mb pb r tg tc ln : Nat) (D : Dm) (syn : Int) (lv pv : Value) (w : World) (h : SubIn w base s mb pb r D 0 1 syn lv ln pv tg tc (.slice none 0 0) 0 false false pg0) (hln : ln ≤ 700000) (hb : base ≤ w.heap.size) :
    Calls Tryz.prog 15 #[.pointer (some ⟨s, 0, none⟩)] w fun e w' => e = .returned (.int .i64 0) ∧ TickP base s mb pb r tg tc D syn pv w w' := by
  have H := hd h
  clear h
  have qs := H.o.sv.srv.cell
  have qsl := H.o.sv.srv.lt
  have qsf := H.o.sv.srv.frozen
  simp only [svCells] at qs
  go_enter Tryz.func15, Tryz.ntmps15
  go_wp2_with fail
  refine (full_any s 1 w ⟨_, qs 0⟩ (qs 20) (by omega)).mono ?_
  rintro e w' ⟨rfl, rfl⟩
  go_upto_region 4 with fail
  have hX : Ext [s] w (w.setCell ⟨s, 16, none⟩ (.int .i64 1)) := (Ext.refl _ _).setCell (.inl (by simp)) _
  have H1 := hd (H.o.onS (now' := 1) (rec' := 1) (syn' := syn) hX (H.o.sv.srv.set_' 16 _ _ rfl))
  have HK1 := hd (Kp.of_ext (base := base) (G := [s, r, pb]) hX (by simp))
  have hz1 := hX.size
  clear qs qsl qsf hX
  generalize hW1 : World.setCell _ _ _ = w1 at *
  clear hW1
  go_wp2_with fail
  refine H1.o.opens.mono ?_
  rintro e w2 ⟨g, cap, rfl, hg, hE, hgl, hcap⟩
  have HG2 := hd hg
  have H2 := hd (H1.o.ext hE)
  have HK2 := hd (HK1.o.trans (Kp.of_ext hE (by simp)))
  have hz2 := hE.size
  clear hg hE
  go_wp2_with fail
  go_loopw [21] (fun i wr => (i = .int .i64 0 ∧ wr = w2) ∨ (i = .int .i64 1 ∧ Hd (SubIn wr base s mb pb r D 1 1 syn lv ln pv tg tc (.slice none 0 0) 0 false false pg0) ∧ Hd (Kp base [s, r, pb] w wr))) (fun i _ => 1 - (intOf i).toNat)
  case atStart => exact .inl ⟨rfl, rfl⟩
  case round =>
    rcases hrel with ⟨rfl, rfl⟩ | ⟨rfl, H3, HK3⟩
    · rename World => w2
      have q := HG2.o
      have qr := H2.o.rq.cell
      have qrl := H2.o.rq.lt
      have qrf := H2.o.rq.frozen
      simp only [rqCells] at qr
      go_upto_region 8 with fail
      have hX : Ext [r] w2 ((w2.setCell ⟨r, 12, none⟩ (.bool false)).setCell ⟨r, 13, none⟩ (.bool false)) := ((Ext.refl _ _).setCell (.inl (by simp)) _).setCell (.inl (by simp)) _
      have H3 := hd (H2.o.onR (hv' := .slice none 0 0) (entries' := 0) (wk' := false) (ls' := false) hX ((H2.o.rq.set_' 12 _ _ rfl).set_' 13 _ _ rfl))
      have HK3 := hd (HK2.o.trans (Kp.of_ext hX (by simp)))
      clear qr qrl qrf hX q
      generalize hW3 : World.setCell _ _ _ = w3 at *
      clear hW3
      refine wp_region_rel 9 (JE _) (Ext []) (kinds []) (by kernel_rfl) (by kernel_rfl) JE.less ?_ JE.start ?_
      · repeat (first | exact Stays.nil | refine Stays.cons sFix.stays ?_)
      simp only [List.take_succ_cons, List.take_zero, List.drop_succ_cons, List.drop_zero]
      repeat
        refine relAt_det rfl rfl ?_
        apply Exists.intro
        refine ⟨fun wr nr hJ => ?_, ?_⟩
        · have hh := H3.o.ext hJ; have qs := hh.sv.srv.cell; have qsl := hh.sv.srv.lt; have qr := hh.rq.cell; have qrl := hh.rq.lt; simp only [svCells] at qs; simp only [rqCells] at qr; clear hh
          clear hJ
          (go_simp; try go_bits)
          first | rfl | exact ⟨rfl, rfl⟩
        simp only [Act.put, List.setIfInBounds_toArray, List.set_cons_succ, List.set_cons_zero]
      refine relAt_nil (fun w4 hJ hF => ?_)
      have H4 := hd (H3.o.ext hJ)
      have HK4 := hd (HK3.o.trans (Kp.of_ext hJ (by simp)))
      clear hF hJ
      go_wp2_with fail
      go_roundw
      case rel => exact .inr ⟨rfl, H4, HK4⟩
      case measure => simp [intOf]
    · rename World => w3
      have hz3 := HK3.o.size
      go_wp2_with fail
      refine H3.o.opens.mono ?_
      rintro e w4 ⟨g4, cap4, rfl, hg, hE, hgl4, hcap4⟩
      have HG4 := hd hg
      have H4 := hd (H3.o.ext hE)
      have HK4 := hd (HK3.o.trans (Kp.of_ext hE (by simp)))
      have hz4 := hE.size
      clear hg hE
      go_wp2_with fail
      go_loopw [5, 49] (fun v i wr => (v = .int .i64 0 ∧ i = .int .i64 0 ∧ wr = w4) ∨ (v = .int .i64 1 ∧ i = .int .i64 1 ∧ Hd (CompP base s mb pb r tg tc ln D 1 1 syn lv pv false w4 wr))) (fun _ i _ => 1 - (intOf i).toNat)
      case atStart => exact .inl ⟨rfl, rfl, rfl⟩
      case round =>
        rcases hrel with ⟨rfl, rfl, rfl⟩ | ⟨rfl, rfl, HC⟩
        · rename World => w4
          have q := HG4.o
          have qr := H4.o.rq.cell
          have qrl := H4.o.rq.lt
          have qs := H4.o.sv.srv.cell
          have qsl := H4.o.sv.srv.lt
          simp only [rqCells] at qr
          simp only [svCells] at qs
          obtain ⟨A1, hA1⟩ : ∃ A1 : Option Addr, (if cap4 = 1 then some ⟨g4, 0, none⟩ else some ⟨g4, 1, none⟩) = A1 := ⟨_, rfl⟩
          go_wp2_with fail
          clear hA1
          refine (work_any base s mb pb r tg tc ln D 1 1 syn lv pv false false w4 _ H4.o).mono ?_
          rintro e w5 ⟨rfl, hC⟩
          have HC := hd hC
          obtain ⟨hv5, pgc5, h5, hE5⟩ := hC
          have qr5 := h5.rq.cell
          have qr5l := h5.rq.lt
          simp only [rqCells] at qr5
          clear h5 hE5 qr qrl qs qsl q
          go_wp2_with fail
          go_roundw
          case rel => exact .inr ⟨rfl, rfl, HC⟩
          case measure => simp [intOf]
        · rename World => w5
          obtain ⟨hv5, pgc5, h5, hE5⟩ := HC.o
          have H5 := hd h5
          have HK5 := hd (HK4.o.trans (Kp.of_ext hE5 (fun x hx => by simp at hx; rcases hx with rfl | rfl <;> simp)))
          have hz5 := HK5.o.size
          have HA := hd ((Ext.refl [] w5).alloc (.cells #[.int .i64 4] 3))
          have HU := hd (Blk.new w5 3 #[.int .i64 4])
          have H6 := hd (h5.ext HA.o)
          clear h5 hE5
          go_wp2_with fail
          refine (record_any base s mb pb w5.heap.size 1 1 D 1 1 syn lv ln _ H6.o.sv (fun k hk => ?_) (by omega) (by omega) (by omega) (by omega) (by simp; omega) (by omega)).mono ?_
          · obtain rfl : k = 0 := by omega
            exact ⟨_, HU.o.cell 0⟩
          rintro e w7 ⟨rfl, lv', hS7, hK7⟩
          have hms := H6.o.mp.ne H6.o.sv.srv
          have hrs := H6.o.rq.ne H6.o.sv.srv (by decide)
          have hts := H6.o.tk.ne H6.o.sv.srv (by decide)
          have hps := H6.o.pg.ne H6.o.sv.srv (by decide)
          have H7 := hd (show SubIn w7 base s mb pb r D 1 2 syn lv' _ pv tg tc hv5 1 true false pgc5 from ⟨hS7, H6.o.mp.kp hK7 hms, hK7.blk H6.o.rq hrs (by decide), hK7.blk H6.o.pg hps (by decide), H6.o.tk.kp hK7 hts, H6.o.tc1, H6.o.lo⟩)
          have HK7 := hd ((HK5.o.trans (Kp.of_ext HA.o (by simp))).trans (hK7.mono (by simp)))
          clear hS7 hK7 hms hrs hts hps
          go_wp2_with fail
          refine (settle_any s mb r w7 H7.o.mp (H7.o.sv.srv.cell 17) (H7.o.rq.cell 11) ⟨_, H7.o.sv.srv.cell 0⟩).mono ?_
          rintro e w8 ⟨rfl, hE8⟩
          have H8 := hd (H7.o.ext hE8)
          have HK8 := hd (HK7.o.trans (Kp.of_ext hE8 (by simp)))
          clear hE8
          go_wp2_with fail
          go_ret
          exact ⟨rfl, lv', _, hv5, pgc5, H8.o, HK8.o⟩
/-- Cancel of a request that is not there. -/
theorem cancel_any (base s mb pb r tg tc ln : Nat) (D : Dm) (now rec syn entries : Int) (lv pv hv : Value) (wk ls : Bool) (pgc : Array Value) (w : World) (h : SubIn w base s mb pb r D now rec syn lv ln pv tg tc hv entries wk ls pgc) :
    Calls Tryz.prog 19 #[.pointer (some ⟨s, 0, none⟩), .int .i64 4] w fun e w' => e = .returned (.int .i64 13) ∧ w = w' := by
  have qs := h.sv.srv.cell
  have qsl := h.sv.srv.lt
  simp only [svCells] at qs
  have hl := h.mp.look 4 (by omega)
  rw [show f1 r 4 = none from rfl] at hl
  simp only [Option.getD_none, zTr] at hl
  clear h
  go_enter Tryz.func19, Tryz.ntmps19
  go_wp2_with fail
  go_ret
  exact ⟨rfl, rfl⟩
end Go.Proofs.YtgbjlccgnfcnaaaGreat
