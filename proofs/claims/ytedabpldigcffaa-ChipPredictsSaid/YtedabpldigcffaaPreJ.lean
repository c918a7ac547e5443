/- The specification's clock: the walk. -/
import Derived.Test.YtedabpldigcffaaPreG
namespace Go.Proofs.Ytedabpldigcffaa
open Go.RowKit
set_option linter.unusedSimpArgs false
set_option linter.unusedVariables false
attribute [local irreducible] relAt

def prCells (m : Mc) (s : Ck) (mb : Nat) : Array Value := #[.int .i64 m.main, .int .i64 m.banks, .int .i64 m.bank, .int .i64 m.lanes, .int .i64 m.queues, .int .i64 s.cyc, .map (some mb)]
/-- A predictor lies in block c; when the queues are ready, in the map mb. -/
structure PrAt (w : World) (c mb : Nat) (m : Mc) (s : Ck) : Prop where
  blk : Blk w c 99 (prCells m s mb)
  map : IMap w mb s.rd
  ne : mb ≠ c
section
variable {w w' : World} {c mb : Nat} {m : Mc} {s : Ck}
theorem PrAt.ext {S : List Nat} (h : PrAt w c mb m s) (hE : Ext S w w') (h1 : c ∉ S) (h2 : mb ∉ S) : PrAt w' c mb m s := ⟨h.blk.ext hE h1, h.map.ext hE h2, h.ne⟩
theorem PrAt.cyc (h : PrAt w c mb m s) (v : Int) : PrAt (w.setCell ⟨c, 5, none⟩ (.int .i64 v)) c mb m ⟨v, s.rd⟩ := ⟨h.blk.set_' 5 _ _ rfl, h.map.ext ((Ext.refl [c] w).setCell (.inl (by simp)) _) (by simpa using h.ne), h.ne⟩
theorem PrAt.put (h : PrAt w c mb m s) {f : Int → Int} (hE : Ext [mb] w w') (hm : IMap w' mb f) : PrAt w' c mb m ⟨s.cyc, f⟩ := ⟨h.blk.ext hE (by simpa using Ne.symm h.ne), hm, h.ne⟩
theorem PrAt.lt (h : PrAt w c mb m s) : c < w.heap.size := h.blk.lt
theorem PrAt.at (h : PrAt w c mb m s) : w.cell? ⟨c, 0, none⟩ = some (.int .i64 m.main) ∧ w.cell? ⟨c, 1, none⟩ = some (.int .i64 m.banks) ∧ w.cell? ⟨c, 2, none⟩ = some (.int .i64 m.bank) ∧ w.cell? ⟨c, 3, none⟩ = some (.int .i64 m.lanes) ∧ w.cell? ⟨c, 4, none⟩ = some (.int .i64 m.queues) ∧ w.cell? ⟨c, 5, none⟩ = some (.int .i64 s.cyc) ∧ w.cell? ⟨c, 6, none⟩ = some (.map (some mb)) :=
  ⟨h.blk.cell 0, h.blk.cell 1, h.blk.cell 2, h.blk.cell 3, h.blk.cell 4, h.blk.cell 5, h.blk.cell 6⟩
end

set_option maxHeartbeats 2000000 in
set_option maxRecDepth 100000 in
theorem waitP_any (m : Mc) (c mb : Nat) (s : Ck) (q : Int) (w : World) (hq : 0 ≤ q ∧ q ≤ 3) (h : PrAt w c mb m s) :
    Calls Try.prog 67 #[.pointer (some ⟨c, 0, none⟩), .int .i64 q] w fun e w' => e = .returned (.tuple #[]) ∧ Ext [c, mb] w w' ∧ PrAt w' c mb m ⟨max s.cyc (s.rd q), putI s.rd q 0⟩ := by
  have HC0 := hd h
  have HQ := hd hq
  have hwf := wf64 (a := q) (by omega)
  obtain ⟨M, hM⟩ : ∃ M, M = max s.cyc (s.rd q) := ⟨_, rfl⟩
  rw [← hM]
  have hmx := hM.symm
  clear h hq hM
  go_enter Try.func67, Try.ntmps67
  go_wp2_with fail
  refine wp_region_rel 12 (JE _) (Ext []) (kinds []) (by kernel_rfl) (by kernel_rfl) JE.less ?_ JE.start ?_
  · repeat (first | exact Stays.nil | refine Stays.cons sFix.stays ?_)
  simp only [List.take_succ_cons, List.take_zero, List.drop_succ_cons, List.drop_zero]
  repeat
    refine relAt_det rfl rfl ?_
    apply Exists.intro
    refine ⟨fun wr nr hJ => ?_, ?_⟩
    · have hC := HC0.out.ext hJ (by simp) (by simp); obtain ⟨c0, c1, c2, c3, c4, c5, c6⟩ := hC.at; have cl := hC.lt; have lk := hC.map.look _ hwf; clear hC
      clear hJ
      (go_simp; try go_bits)
      first | rfl | exact ⟨rfl, rfl⟩
    simp only [Act.put, List.setIfInBounds_toArray, List.set_cons_succ, List.set_cons_zero]
  refine relAt_nil (fun w2 hJ hF => ?_)
  have HC2 := hd (HC0.out.ext hJ (by simp) (by simp))
  have HE2 : Hd (Ext [c, mb] w w2) := hd hJ.nil
  obtain ⟨c0, c1, c2, c3, c4, c5, c6⟩ := HC2.out.at
  have cl := HC2.out.lt
  have cf := HC2.out.blk.frozen 5
  have HC3 := hd (HC2.out.cyc M)
  have HE3 := hd (HE2.out.setCell (p := ⟨c, 5, none⟩) (.inl (by simp)) (.int .i64 M))
  clear hJ hF
  go_wp2_with (at_delete; refine wpList_imap_drop _ rfl _ _ rfl mb s.rd rfl HC3.out.map q rfl HQ.out ?_; intro w4 hm4 hE4; have HM4 := hd hm4; have HE4 := hd hE4; clear hm4 hE4)
  go_end0
  exact ⟨rfl, HE3.out.trans (HE4.out.mono (fun x hx => .inl (by simp at hx; simp [hx]))), HC3.out.put HE4.out HM4.out⟩

/-- What run leaves. -/
def RunP (c mb : Nat) (m : Mc) (T : Ck) (w : World) (e : Ending) (w' : World) : Prop := ∃ v : Int, e = .returned (.int .i64 v) ∧ Ext [c, mb] w w' ∧ PrAt w' c mb m T

set_option maxHeartbeats 4000000 in
set_option maxRecDepth 100000 in
theorem run_any (m : Mc) (A : Option Addr) (cap c mb : Nat) (xs : List Ins) (hok : m.okB = true) (hc : codeE m 0 xs = 0) (hl : xs.length ≤ 100000) (hcr : mb ≠ c) (hA : xs = [] ∨ ∀ a, A = some a → a.block ≠ c ∧ a.block ≠ mb) :
    ∀ F f p (w : World) (s T : Ck), f ≤ F → F ≤ 100000 → p ≤ xs.length → RunSt (rfStep m.lanes) xs T f p s → RdC w A xs → PrAt w c mb m s →
      Calls Try.prog 66 #[.pointer (some ⟨c, 0, none⟩), .slice A xs.length cap, .int .i64 p] w (RunP c mb m T w) := by
  have hmc := mc_ok hok
  have HV := hd (codeE_valid hok hc)
  have HM := hd (codeE_loops hc)
  have HS : Hd (∀ x ∈ xs, ∀ c s, CkB c s → CkB (c + 5000) (rfStep m.lanes x s)) := hd (fun x hx c s hb => hb.rf (by omega) (by omega) (HV.out x hx))
  have HC := hd hc
  have HA := hd hA
  have HEX := hd (fun F f p W h1 h2 h3 h4 h5 => executed_any A cap xs hl HM.out F f p W h1 h2 h3 h4 h5)
  clear hok hc hA
  intro F
  induction F with
  | zero =>
    intro f p w s T hf hF hp hT hR hCK
    have hf0 : f = 0 := by omega
    subst hf0
    have hpl : p = xs.length := by have := hT.fuel; omega
    subst hpl
    have HT := hd (hT.past (Nat.le_refl _))
    have HCK := hd hCK
    clear hT hCK hR hmc
    go_enter Try.func66, Try.ntmps66
    go_wp2_with fail
    go_loopw [2] (fun i wr => i = .int .i64 xs.length ∧ wr = w) (fun _ _ => 0)
    case atStart => exact ⟨rfl, rfl⟩
    case round =>
      obtain ⟨rfl, rfl⟩ := hrel
      go_wp2_with fail
      go_ret
      exact ⟨_, rfl, Ext.refl _ _, by rw [← HT.out]; exact HCK.out⟩
  | succ F ih =>
    intro f p w s T hf hF hp hT hR hCK
    have HI := hd ih
    have HT := hd hT
    have HR := hd hR
    have HCK := hd hCK
    clear ih hT hR hCK
    go_enter Try.func66, Try.ntmps66
    go_wp2_with fail
    go_loopw [2] (fun i wr => ∃ (g q : Nat) (t : Ck), i = .int .i64 q ∧ g ≤ F + 1 ∧ q ≤ xs.length ∧ Hd (RunSt (rfStep m.lanes) xs T g q t) ∧ Hd (PrAt wr c mb m t) ∧ Hd (Ext [c, mb] w wr)) (fun i _ => (xs.length - intOf i).toNat)
    case atStart => exact ⟨f, p, s, rfl, hf, hp, HT, HCK, hd (Ext.refl _ _)⟩
    case round =>
      obtain ⟨g, q, t, rfl, hg, hq, HT, HCK, HE⟩ := hrel
      have hclt := HCK.out.lt
      by_cases hlt : q < xs.length
      · obtain ⟨x, hx⟩ : ∃ x, xs[q]? = some x := ⟨_, List.getElem?_eq_getElem hlt⟩
        have HRr := hd (HR.out.exto HE.out (HA.out.imp id fun h a ha => by have := h a ha; simp; omega))
        obtain ⟨b, o, rfl, hbl, hcx⟩ := HRr.out.at hx
        have h0 := hcx 0 _ rfl
        have h1 := hcx 1 _ rfl
        have h2 := hcx 2 _ rfl
        have h3 := hcx 3 _ rfl
        have h4 := hcx 4 _ rfl
        have h5 := hcx 5 _ rfl
        have h6 := hcx 6 _ rfl
        have h7 := hcx 7 _ rfl
        have h8 := hcx 8 _ rfl
        simp only [Nat.add_zero] at h0
        have HX := hd hx
        have HVX := hd (HV.out x (List.mem_of_getElem? hx))
        clear hcx hx
        cases g with
        | zero => have := HT.out.fuel; omega
        | succ g =>
          obtain ⟨xo, xk, xd, xa, xb, xc, xp, xn, xm⟩ := x
          simp only at h0 h1 h2 h3 h4 h5 h6 h7 h8
          have hopv := HVX.out.op
          have HPR : Hd (∀ W, Calls Try.prog 84 #[.agg #[.int .i64 m.main, .int .i64 m.banks, .int .i64 m.bank, .int .i64 m.lanes, .int .i64 m.queues], .agg #[.int .i64 xo, .int .i64 xk, .int .i64 xd, .int .i64 xa, .int .i64 xb, .int .i64 xc, .int .i64 xp, .int .i64 xn, .int .i64 xm]] W fun e w' => e = .returned (.int .i64 (priceS m.lanes ⟨xo, xk, xd, xa, xb, xc, xp, xn, xm⟩)) ∧ Ext [] W w') := hd (fun W => cycles_any m ⟨xo, xk, xd, xa, xb, xc, xp, xn, xm⟩ W HVX.out.op)
          have hsm := HT.out.small HM.out
          have hcy0 := hsm.1
          have hcy1 := hsm.2.1
          have HRB := hd hsm.2.2
          have hpb := priceS_bound (lanes := m.lanes) (by omega) ⟨xo, xk, xd, xa, xb, xc, xp, xn, xm⟩
          clear hsm
          by_cases hop4 : xo = 4
          · have HZ := hd (HT.out.end HX.out hop4)
            subst hop4
            go_wp2_with fail
            go_ret
            exact ⟨_, rfl, HE.out, by rw [← HZ.out]; exact HCK.out⟩
          have HX1 := hd (Blk.new wr 64 #[.int .i64 xo, .int .i64 xk, .int .i64 xd, .int .i64 xa, .int .i64 xb, .int .i64 xc, .int .i64 xp, .int .i64 xn, .int .i64 xm])
          have HC1 : Hd (PrAt (wr.alloc (.cells #[.int .i64 xo, .int .i64 xk, .int .i64 xd, .int .i64 xa, .int .i64 xb, .int .i64 xc, .int .i64 xp, .int .i64 xn, .int .i64 xm] 64)) c mb m t) := hd (HCK.out.ext ((Ext.refl [] _).alloc _) (by simp) (by simp))
          have HE1 := hd (HE.out.alloc (.cells #[.int .i64 xo, .int .i64 xk, .int .i64 xd, .int .i64 xa, .int .i64 xb, .int .i64 xc, .int .i64 xp, .int .i64 xn, .int .i64 xm] 64))
          have hn4 : (xo == 4) = false := by simpa using hop4
          have hxg : c < wr.heap.size ∧ mb < wr.heap.size := ⟨hclt, HCK.out.map.lt⟩
          by_cases h18 : xo = 18
          · have hd0 := HVX.out.d.1
            have hq1 := HVX.out.q (.inl h18)
            have hq3 : 0 ≤ xd ∧ xd ≤ 3 := by simp only at hd0 hq1; omega
            have hrd0 := (HRB.out xd).1
            have hrd1 := (HRB.out xd).2
            clear hd0 hq1
            have hks := HVX.out.ks h18
            have hxm0 : 1 ≤ xm := by simp only at hks; omega
            have hxm1 : xm ≤ 4096 := by simp only at hks; omega
            have HST := hd (HT.out.plain HS.out HX.out (by simp only; omega) hop4)
            have HSE : Hd (rfStep m.lanes ⟨xo, xk, xd, xa, xb, xc, xp, xn, xm⟩ t = ⟨max t.cyc (t.rd xd) + 2, putI (putI t.rd xd 0) xd (max t.cyc (t.rd xd) + 2 + 8 + xm)⟩) := hd (by simp only [rfStep, if_pos h18, priceS, h18]; rfl)
            have HP2 : Hd (priceS m.lanes ⟨xo, xk, xd, xa, xb, xc, xp, xn, xm⟩ = 2) := hd (by simp only [priceS, h18]; rfl)
            rw [HP2.out] at HPR
            subst h18
            clear hks hop4 hpb hn4
            have hQ3 := hd hq3
            go_wp2_with fail
            generalize wr.alloc (.cells #[.int .i64 18, .int .i64 xk, .int .i64 xd, .int .i64 xa, .int .i64 xb, .int .i64 xc, .int .i64 xp, .int .i64 xn, .int .i64 xm] 64) = w1 at *
            generalize hxb : wr.heap.size = xbk at *
            clear h0 h1 h2 h3 h4 h5 h6 h7 h8
            refine (waitP_any m c mb t xd _ hQ3.out HC1.out).mono ?_
            rintro e w2 ⟨rfl, hE2, hC2⟩
            obtain ⟨M, hM⟩ : ∃ M, M = max t.cyc (t.rd xd) := ⟨_, rfl⟩
            have hM0 : 0 ≤ M := by omega
            have hM1 : M ≤ 1000000000000 := by omega
            rw [← hM] at HSE hC2
            have HC2 := hd hC2
            have HX2 := hd (HX1.out.ext hE2 (by simp; omega))
            have HE2 := hd (HE1.out.trans hE2)
            have qne : c ≠ xbk := by omega
            clear hM hE2 hC2
            go_wp2_with fail
            refine wp_region_rel 10 (JE _) (Ext []) (kinds [(9, sFix (.int .i64 2))]) (by kernel_rfl) (by kernel_rfl) JE.less ?_ JE.start ?_
            · repeat (first | exact Stays.nil | refine Stays.cons sFix.stays ?_)
            simp only [List.take_succ_cons, List.take_zero, List.drop_succ_cons, List.drop_zero]
            repeat
              refine relAt_det rfl rfl ?_
              apply Exists.intro
              refine ⟨fun wr nr hJ => ?_, ?_⟩
              · have hC := HC2.out.ext hJ (by simp) (by simp); obtain ⟨c0, c1, c2, c3, c4, c5, c6⟩ := hC.at; have cl := hC.lt; clear hC; have qx := HX2.out.ext hJ (by simp); have qxc := qx.cell; have qxl := qx.lt; clear qx
                clear hJ
                (go_simp; try go_bits)
                first | rfl | exact ⟨rfl, rfl⟩
              simp only [Act.put, List.setIfInBounds_toArray, List.set_cons_succ, List.set_cons_zero]
            refine rel_fix rfl rfl ?_ ?_
            · apply Exists.intro
              apply Exists.intro
              refine ⟨fun wr => ?_, fun wr nr hJ => ?_⟩
              · go_simp
                first | exact ⟨rfl, rfl⟩ | rfl
              · exact HPR.out _
            simp only [Act.put, List.setIfInBounds_toArray, List.set_cons_succ, List.set_cons_zero]
            repeat
              refine relAt_det rfl rfl ?_
              apply Exists.intro
              refine ⟨fun wr nr hJ => ?_, ?_⟩
              · have hC := HC2.out.ext hJ (by simp) (by simp); obtain ⟨c0, c1, c2, c3, c4, c5, c6⟩ := hC.at; have cl := hC.lt; clear hC; have qx := HX2.out.ext hJ (by simp); have qxc := qx.cell; have qxl := qx.lt; clear qx
                clear hJ
                (go_simp; try go_bits)
                first | rfl | exact ⟨rfl, rfl⟩
              simp only [Act.put, List.setIfInBounds_toArray, List.set_cons_succ, List.set_cons_zero]
            refine relAt_nil (fun w3 hJ hF => ?_)
            have HC3 := hd (HC2.out.ext hJ (by simp) (by simp))
            have HE3 := hd (HE2.out.trans hJ.nil)
            obtain ⟨c0, c1, c2, c3, c4, c5, c6⟩ := HC3.out.at
            have cl := HC3.out.lt
            have cf := HC3.out.blk.frozen 5
            have HX3 := hd (HX2.out.ext hJ (by simp))
            have qxc := HX3.out.cell
            have qxl := HX3.out.lt
            clear hJ hF
            simp only at c5
            go_wp2_with fail
            have HC4 := hd (HC3.out.cyc (M + 2))
            have HX4 := hd (HX3.out.far (p := ⟨c, 5, none⟩) (Ne.symm qne) (.int .i64 (M + 2)))
            have HE4 := hd (HE3.out.setCell (p := ⟨c, 5, none⟩) (.inl (by simp)) (.int .i64 (M + 2)))
            clear c0 c1 c2 c3 c4 c5 c6 cl cf qxc qxl
            generalize w3.setCell ⟨c, 5, none⟩ (.int .i64 (M + 2)) = w4 at *
            obtain ⟨C, hC⟩ : ∃ C, C = M + 2 := ⟨_, rfl⟩
            rw [← hC] at HC4 HSE
            have hC0 : 0 ≤ C := by omega
            have hC1 : C ≤ 1000000000002 := by omega
            clear hC
            have hw1 : IntKind.i64.wrap (C + 8) = C + 8 := IntWalk.i64_in _ (by omega)
            have hw2 : IntKind.i64.wrap (C + 8 + xm) = C + 8 + xm := IntWalk.i64_in _ (by omega)
            have HWF : Hd ((Lit.int .i64 (C + 8 + xm)).wf = true) := hd (wf64 (by omega))
            refine wp_region_rel 14 (JE _) (Ext []) (kinds []) (by kernel_rfl) (by kernel_rfl) JE.less ?_ JE.start ?_
            · repeat (first | exact Stays.nil | refine Stays.cons sFix.stays ?_)
            simp only [List.take_succ_cons, List.take_zero, List.drop_succ_cons, List.drop_zero]
            repeat
              refine relAt_det rfl rfl ?_
              apply Exists.intro
              refine ⟨fun wr nr hJ => ?_, ?_⟩
              · have hC := HC4.out.ext hJ (by simp) (by simp); obtain ⟨c0, c1, c2, c3, c4, c5, c6⟩ := hC.at; have cl := hC.lt; clear hC; have qx := HX4.out.ext hJ (by simp); have qxc := qx.cell; have qxl := qx.lt; clear qx
                clear hJ
                (go_simp; try go_bits)
                first | rfl | exact ⟨rfl, rfl⟩
              simp only [Act.put, List.setIfInBounds_toArray, List.set_cons_succ, List.set_cons_zero]
            refine relAt_nil (fun w5 hJ hF => ?_)
            clear hw1 hw2
            have HC5 := hd (HC4.out.ext hJ (by simp) (by simp))
            have HE5 := hd (HE4.out.trans hJ.nil)
            obtain ⟨c0, c1, c2, c3, c4, c5, c6⟩ := HC5.out.at
            have cl := HC5.out.lt
            have cf := HC5.out.blk.frozen 5
            have HX5 := hd (HX4.out.ext hJ (by simp))
            have qxc := HX5.out.cell
            have qxl := HX5.out.lt
            clear hJ hF
            go_wp2_with (at_mapUpdate; refine wpList_imap_store _ rfl _ _ _ rfl mb _ rfl HC5.out.map xd (C + 8 + xm) rfl rfl hQ3.out HWF.out ?_; intro w6 hm6 hE6; have HM6 := hd hm6; have HE6 := hd hE6; clear hm6 hE6)
            go_roundw
            case rel => exact ⟨g, q + 1, ⟨C, putI (putI t.rd xd 0) xd (C + 8 + xm)⟩, by go_num, by omega, by omega, hd (by rw [← HSE.out]; exact HST.out), hd (HC5.out.put HE6.out HM6.out), hd (HE5.out.trans (HE6.out.mono (fun x hx => .inl (by simp at hx; simp [hx]))))⟩
            case measure => simp [intOf]; omega
          have hn18 : (xo == 18) = false := by simpa using h18
          go_wp2_with fail
          generalize wr.alloc (.cells #[.int .i64 xo, .int .i64 xk, .int .i64 xd, .int .i64 xa, .int .i64 xb, .int .i64 xc, .int .i64 xp, .int .i64 xn, .int .i64 xm] 64) = w1 at *
          generalize hxb : wr.heap.size = xbk at *
          generalize hpr : priceS m.lanes ⟨xo, xk, xd, xa, xb, xc, xp, xn, xm⟩ = pr at *
          have HPE := hd hpr
          clear h0 h1 h2 h3 h4 h5 h6 h7 h8 hpr
          refine wp_region_rel 10 (JE _) (Ext []) (kinds [(9, sFix (.int .i64 pr))]) (by kernel_rfl) (by kernel_rfl) JE.less ?_ JE.start ?_
          · repeat (first | exact Stays.nil | refine Stays.cons sFix.stays ?_)
          simp only [List.take_succ_cons, List.take_zero, List.drop_succ_cons, List.drop_zero]
          repeat
            refine relAt_det rfl rfl ?_
            apply Exists.intro
            refine ⟨fun wr nr hJ => ?_, ?_⟩
            · have hC := HC1.out.ext hJ (by simp) (by simp); obtain ⟨c0, c1, c2, c3, c4, c5, c6⟩ := hC.at; have cl := hC.lt; clear hC; have qx := HX1.out.ext hJ (by simp); have qxc := qx.cell; have qxl := qx.lt; clear qx
              clear hJ
              (go_simp; try go_bits)
              first | rfl | exact ⟨rfl, rfl⟩
            simp only [Act.put, List.setIfInBounds_toArray, List.set_cons_succ, List.set_cons_zero]
          refine rel_fix rfl rfl ?_ ?_
          · apply Exists.intro
            apply Exists.intro
            refine ⟨fun wr => ?_, fun wr nr hJ => ?_⟩
            · go_simp
              first | exact ⟨rfl, rfl⟩ | rfl
            · exact HPR.out _
          simp only [Act.put, List.setIfInBounds_toArray, List.set_cons_succ, List.set_cons_zero]
          repeat
            refine relAt_det rfl rfl ?_
            apply Exists.intro
            refine ⟨fun wr nr hJ => ?_, ?_⟩
            · have hC := HC1.out.ext hJ (by simp) (by simp); obtain ⟨c0, c1, c2, c3, c4, c5, c6⟩ := hC.at; have cl := hC.lt; clear hC; have qx := HX1.out.ext hJ (by simp); have qxc := qx.cell; have qxl := qx.lt; clear qx
              clear hJ
              (go_simp; try go_bits)
              first | rfl | exact ⟨rfl, rfl⟩
            simp only [Act.put, List.setIfInBounds_toArray, List.set_cons_succ, List.set_cons_zero]
          refine relAt_nil (fun w2 hJ hF => ?_)
          have HC2 := hd (HC1.out.ext hJ (by simp) (by simp))
          have HE2 := hd (HE1.out.trans hJ.nil)
          obtain ⟨c0, c1, c2, c3, c4, c5, c6⟩ := HC2.out.at
          have cl := HC2.out.lt
          have cf := HC2.out.blk.frozen 5
          have HX2 := hd (HX1.out.ext hJ (by simp))
          have qxc := HX2.out.cell
          have qxl := HX2.out.lt
          clear hJ hF
          have qne : c ≠ xbk := by omega
          by_cases h19 : xo = 19
          · have hd0 := HVX.out.d.1
            have hq1 := HVX.out.q (.inr h19)
            have hq3 : 0 ≤ xd ∧ xd ≤ 3 := by simp only at hd0 hq1; omega
            have hrd0 := (HRB.out xd).1
            have hrd1 := (HRB.out xd).2
            clear hd0 hq1
            have HST := hd (HT.out.plain HS.out HX.out (by simp only; omega) hop4)
            have HSE : Hd (rfStep m.lanes ⟨xo, xk, xd, xa, xb, xc, xp, xn, xm⟩ t = ⟨max (t.cyc + pr) (t.rd xd), putI t.rd xd 0⟩) := hd (by simp only [rfStep, if_neg h18, if_pos h19, HPE.out])
            subst h19
            clear hop4 h18 hn4 hn18
            have hQ3 := hd hq3
            go_wp2_with fail
            have HC3 := hd (HC2.out.cyc (t.cyc + pr))
            have HX3 := hd (HX2.out.far (p := ⟨c, 5, none⟩) (Ne.symm qne) (.int .i64 (t.cyc + pr)))
            have HE3 := hd (HE2.out.setCell (p := ⟨c, 5, none⟩) (.inl (by simp)) (.int .i64 (t.cyc + pr)))
            clear c0 c1 c2 c3 c4 c5 c6 cl cf qxc qxl
            generalize w2.setCell ⟨c, 5, none⟩ (.int .i64 (t.cyc + pr)) = w3 at *
            refine (waitP_any m c mb _ xd _ hQ3.out HC3.out).mono ?_
            rintro e w4 ⟨rfl, hE4, hC4⟩
            have HC4 := hd hC4
            have HE4 := hd (HE3.out.trans hE4)
            clear hE4 hC4
            go_wp2_with fail
            go_roundw
            case rel => exact ⟨g, q + 1, ⟨max (t.cyc + pr) (t.rd xd), putI t.rd xd 0⟩, by go_num, by omega, by omega, hd (by rw [← HSE.out]; exact HST.out), HC4, HE4⟩
            case measure => simp [intOf]; omega
          have hn19 : (xo == 19) = false := by simpa using h19
          by_cases h3 : xo = 3
          · have hlo := HVX.out.lo h3
            have hxm0 : 0 ≤ xm := hlo.1
            have hxm1 : xm ≤ 1000000 := hlo.2
            have HSE : Hd (rfStep m.lanes ⟨xo, xk, xd, xa, xb, xc, xp, xn, xm⟩ t = ⟨t.cyc + pr, t.rd⟩) := hd (by simp only [rfStep, if_neg h18, if_neg h19, HPE.out])
            have HLP := hd (HT.out.loop HM.out HS.out HX.out h3)
            have HTU := hd (HT.out.turn HM.out HS.out HX.out h3)
            rw [HSE.out] at HLP HTU
            have hfu : xs.length ≤ q + 1 + g := by have := HT.out.fuel; omega
            have hin : (cnt xs g (q + 1)).2 < xs.length := by
              obtain ⟨y, hy, _⟩ := ends_in HC.out HX.out h3 hfu
              exact (List.getElem?_eq_some_iff.1 hy).1
            have hge := cnt_ge xs g (q + 1)
            subst h3
            clear hop4 h18 h19 hn4 hn18 hn19 hlo
            go_wp2_with fail
            have HC3 := hd (HC2.out.cyc (t.cyc + pr))
            have HX3 := hd (HX2.out.far (p := ⟨c, 5, none⟩) (Ne.symm qne) (.int .i64 (t.cyc + pr)))
            have HE3 := hd (HE2.out.setCell (p := ⟨c, 5, none⟩) (.inl (by simp)) (.int .i64 (t.cyc + pr)))
            clear c0 c1 c2 c3 c4 c5 c6 cl cf qxc qxl
            generalize w2.setCell ⟨c, 5, none⟩ (.int .i64 (t.cyc + pr)) = w3 at *
            refine (HEX.out g g (q + 1) _ (Nat.le_refl _) (by omega) hfu (by omega) (HR.out.exto HE3.out (HA.out.imp id fun h a ha => by have := h a ha; simp; omega))).mono ?_
            rintro e w4 ⟨rfl, hE4⟩
            have HC4 := hd (HC3.out.ext hE4 (by simp) (by simp))
            have HX4 := hd (HX3.out.ext hE4 (by simp))
            have HE4 := hd (HE3.out.trans hE4.nil)
            have qxc := HX4.out.cell
            have qxl := HX4.out.lt
            generalize sat (cnt xs g (q + 1)).1 = esum at *
            generalize (cnt xs g (q + 1)).2 = E at *
            clear hE4
            obtain ⟨wo, rfl⟩ : ∃ wo : World, wo = wr := ⟨_, rfl⟩
            go_wp2_with fail
            clear qxc qxl
            go_loopw [81] (fun j wi => ∃ k : Nat, j = .int .i64 k ∧ (k : Int) ≤ xm ∧ Hd (PrAt wi c mb m (iterS (fun s => runS (rfStep m.lanes) ckTick xs g (q + 1) (ckTick s)) k ⟨t.cyc + pr, t.rd⟩)) ∧ Hd (Ext [c, mb] w wi)) (fun j _ => (xm - intOf j).toNat)
            case atStart => exact ⟨0, rfl, by omega, HC4, HE4⟩
            case round =>
              obtain ⟨k, rfl, hk, HCk, HEk⟩ := hrel
              by_cases hlt2 : (k : Int) < xm
              · have HTk := hd (HTU.out k hlt2)
                have hsk := HTk.out.small HM.out
                generalize hit : iterS (fun s => runS (rfStep m.lanes) ckTick xs g (q + 1) (ckTick s)) k ⟨t.cyc + pr, t.rd⟩ = sk at *
                have hs0 : -1 ≤ sk.cyc := by have := hsk.1; simp only [ckTick] at this; omega
                have hs1 : sk.cyc ≤ 1000000000000 := by have := hsk.2.1; simp only [ckTick] at this; omega
                obtain ⟨c0, c1, c2, c3, c4, c5, c6⟩ := HCk.out.at
                have cl := HCk.out.lt
                have cf := HCk.out.blk.frozen 5
                have HCt : Hd (PrAt (wr.setCell ⟨c, 5, none⟩ (.int .i64 (sk.cyc + 1))) c mb m (ckTick sk)) := hd (HCk.out.cyc _)
                have HEt := hd (HEk.out.setCell (p := ⟨c, 5, none⟩) (.inl (by simp)) (.int .i64 (sk.cyc + 1)))
                have HRt := hd (HR.out.exto HEt.out (HA.out.imp id fun h a ha => by have := h a ha; simp; omega))
                clear hsk hit
                go_wp2_with fail
                refine (HI.out g (q + 1) _ _ _ (by omega) (by omega) (by omega) HTk.out HRt.out HCt.out).mono ?_
                rintro e w5 ⟨v, rfl, hE5, hC5⟩
                have HE5 := hd (HEt.out.trans hE5)
                have HC5 := hd hC5
                clear hE5 hC5 c0 c1 c2 c3 c4 c5 c6 cl cf
                go_wp2_with fail
                go_roundw
                case rel => exact ⟨k + 1, by go_num, by omega, HC5, HE5⟩
                case measure => simp [intOf]; omega
              · have hkx : xm.toNat = k := by omega
                rw [hkx] at HLP
                go_wp2_with fail
                go_roundw
                case rel => exact ⟨g, E + 1, _, by go_num, by omega, by omega, HLP, HCk, HEk⟩
                case measure => simp [intOf]; omega
          have hn3 : (xo == 3) = false := by simpa using h3
          have HST := hd (HT.out.plain HS.out HX.out h3 hop4)
          have HSE : Hd (rfStep m.lanes ⟨xo, xk, xd, xa, xb, xc, xp, xn, xm⟩ t = ⟨t.cyc + pr, t.rd⟩) := hd (by simp only [rfStep, if_neg h18, if_neg h19, HPE.out])
          clear h18 h19 h3 hop4
          go_wp2_with fail
          go_roundw
          case rel => exact ⟨g, q + 1, ⟨t.cyc + pr, t.rd⟩, by go_num, by omega, by omega, hd (by rw [← HSE.out]; exact HST.out), hd (HC2.out.cyc _), hd (HE2.out.setCell (.inl (by simp)) _)⟩
          case measure => simp [intOf]; omega
      · have HZ := hd (HT.out.past (by omega))
        go_wp2_with fail
        go_ret
        exact ⟨_, rfl, HE.out, by rw [← HZ.out]; exact HCK.out⟩
end Go.Proofs.Ytedabpldigcffaa
namespace Go.Proofs.Ytedabpldigcffaa
open Go.RowKit
set_option linter.unusedSimpArgs false
set_option linter.unusedVariables false
attribute [local irreducible] relAt

set_option maxHeartbeats 2000000 in
set_option maxRecDepth 100000 in
theorem predict_bad (m : Mc) (A : Option Addr) (cap : Nat) (xs : List Ins) (w : World) (h : RdC w A xs) (hl : xs.length ≤ 100000) (hb : checkS m xs ≠ 0) :
    Calls Try.prog 35 #[.agg m.cells.toArray, .slice A xs.length cap] w fun e w' => e = .returned (.tuple #[.int .i64 0, .int .i64 (checkS m xs)]) ∧ Ext [] w w' := by
  have HCK := hd (fun W (hW : RdC W A xs) => check_any m A cap xs W hW hl)
  have HR := hd h
  obtain ⟨m0, m1, m2, m3, m4⟩ := m
  have HB := hd hb
  generalize checkS ⟨m0, m1, m2, m3, m4⟩ xs = cv at *
  have hb2 : (cv != 0) = true := by simpa using hb
  clear h hb
  simp only [Mc.cells] at *
  go_enter Try.func35, Try.ntmps35
  go_wp2_with fail
  refine (HCK.out _ (HR.out.ext ((Ext.refl [] _).alloc _) (by simp))).mono ?_
  rintro e w1 ⟨rfl, hE1⟩
  have HE1 := hd (((Ext.refl [] w).alloc _).trans hE1)
  clear hE1
  go_wp2_with fail
  go_ret2
  exact ⟨rfl, HE1.out⟩

set_option maxHeartbeats 2000000 in
set_option maxRecDepth 100000 in
theorem predict_ok (m : Mc) (A : Option Addr) (cap : Nat) (xs : List Ins) (w : World) (h : RdC w A xs) (hl : xs.length ≤ 100000) (hA : xs = [] ∨ ∀ a, A = some a → a.block < w.heap.size) (h0 : checkS m xs = 0) :
    Calls Try.prog 35 #[.agg m.cells.toArray, .slice A xs.length cap] w fun e w' => e = .returned (.tuple #[.int .i64 (predS m xs), .int .i64 0]) ∧ Ext [] w w' := by
  have HCK := hd (fun W (hW : RdC W A xs) => check_any m A cap xs W hW hl)
  rw [h0] at HCK
  obtain ⟨hok, hc, ht⟩ := checkS_zero h0
  have HPR := hd (fun (Q : Nat) W (hQ : m.queues = Q) (h1 : RdC W A xs) (h2 : xs = [] ∨ ∀ a, A = some a → a.block < W.heap.size) => predicted_any m A cap Q xs W hok hc ht hl hQ h1 h2)
  have hq := (mc_ok hok).2.2.2.2
  have HQ : Hd (m.queues = (m.queues.toNat : Nat)) := hd (by omega)
  have HR := hd h
  have HA := hd hA
  have HM1 := hd (Blk.new w 40 m.cells.toArray)
  obtain ⟨m0, m1, m2, m3, m4⟩ := m
  clear h hA h0 hok hc ht hq
  simp only [Mc.cells] at *
  generalize predS ⟨m0, m1, m2, m3, m4⟩ xs = P at *
  go_enter Try.func35, Try.ntmps35
  go_wp2_with fail
  refine (HCK.out _ (HR.out.ext ((Ext.refl [] _).alloc _) (by simp))).mono ?_
  rintro e w1 ⟨rfl, hE1⟩
  have HE1 := hd (((Ext.refl [] w).alloc _).trans hE1)
  have qx := (HM1.out.ext hE1 (by simp)).cell
  have ql := (HM1.out.ext hE1 (by simp)).lt
  clear hE1
  go_wp2_with fail
  refine (HPR.out _ _ HQ.out (HR.out.ext HE1.out (by simp)) (HA.out.imp id fun h a ha => Nat.lt_of_lt_of_le (h a ha) HE1.out.size)).mono ?_
  rintro e w2 ⟨rfl, hE2⟩
  have HE2 := hd (HE1.out.trans hE2)
  clear hE2
  go_wp2_with fail
  go_ret2
  exact ⟨rfl, HE2.out⟩

set_option maxHeartbeats 4000000 in
set_option maxRecDepth 100000 in
theorem predictedR_any (m : Mc) (A : Option Addr) (cap : Nat) (xs : List Ins) (w : World) (h : RdC w A xs) (hl : xs.length ≤ 100000) (hA : xs = [] ∨ ∀ a, A = some a → a.block < w.heap.size) (h0 : checkS m xs = 0) :
    Calls Try.prog 37 #[.agg m.cells.toArray, .slice A xs.length cap] w fun e w' => e = .returned (.int .i64 (predS m xs)) ∧ Ext [] w w' := by
  obtain ⟨hok, hc, ht⟩ := checkS_zero h0
  have hmc := mc_ok hok
  have HRS : Hd (RunSt (rfStep m.lanes) xs (rfEnd m xs) xs.length 0 ck0) := hd ⟨by omega, rfl, 0, ck_start 0 (Int.le_refl _), by have := cnt_le hc ht; omega⟩
  have HPS := hd (pred_eq hok hc)
  have HRN := hd (fun (c mb : Nat) (h1 : mb ≠ c) (h2 : xs = [] ∨ ∀ a, A = some a → a.block ≠ c ∧ a.block ≠ mb) => run_any m A cap c mb xs hok hc hl h1 h2 xs.length xs.length 0)
  have HR := hd h
  have HA := hd hA
  have HM1 := hd (Blk.new w 40 m.cells.toArray)
  have HIM := hd (fun W => IMap.made W)
  obtain ⟨Q, hQ⟩ : ∃ Q : Nat, m.queues = Q := ⟨m.queues.toNat, by omega⟩
  have hq1 : 1 ≤ Q := by omega
  have hq4 : Q ≤ 4 := by omega
  have hmm := @run_makeMap Try.prog
  obtain ⟨m0, m1, m2, m3, m4⟩ := m
  simp only at hQ
  subst hQ
  clear h hA h0 hok hc ht hmc
  simp only [Mc.cells, Int.toNat_natCast] at *
  generalize predS ⟨m0, m1, m2, m3, Q⟩ xs = P at *
  generalize rfEnd ⟨m0, m1, m2, m3, Q⟩ xs = T at *
  go_enter Try.func37, Try.ntmps37
  go_wp2_with fail
  have HE1 := hd ((Ext.refl [] w).alloc (.cells #[.int .i64 m0, .int .i64 m1, .int .i64 m2, .int .i64 m3, .int .i64 Q] 40))
  generalize hw1 : w.alloc (.cells #[.int .i64 m0, .int .i64 m1, .int .i64 m2, .int .i64 m3, .int .i64 Q] 40) = w1 at *
  generalize hmb : w.heap.size = m1b at *
  have hs1 : w1.heap.size = m1b + 1 := by rw [← hw1, ← hmb]; simp
  have him := (HIM.out w1)
  rw [hs1] at him
  have HC2 : Hd (PrAt ((w1.alloc (.map #[] 0)).alloc (.cells #[.int .i64 m0, .int .i64 m1, .int .i64 m2, .int .i64 m3, .int .i64 Q, .int .i64 0, .map (some (m1b + 1))] 99)) (m1b + 1 + 1) (m1b + 1) ⟨m0, m1, m2, m3, Q⟩ ck0) :=
    hd ⟨Blk.new' _ _ _ _ (by simp [hs1]), him.ext ((Ext.refl [] _).alloc _) (by simp), by omega⟩
  have HE2 := hd ((HE1.out.alloc (.map #[] 0)).alloc (.cells #[.int .i64 m0, .int .i64 m1, .int .i64 m2, .int .i64 m3, .int .i64 Q, .int .i64 0, .map (some (m1b + 1))] 99))
  have HM2 := hd ((HM1.out.alloc (.map #[] 0)).alloc (.cells #[.int .i64 m0, .int .i64 m1, .int .i64 m2, .int .i64 m3, .int .i64 Q, .int .i64 0, .map (some (m1b + 1))] 99))
  generalize (w1.alloc (.map #[] 0)).alloc (.cells #[.int .i64 m0, .int .i64 m1, .int .i64 m2, .int .i64 m3, .int .i64 Q, .int .i64 0, .map (some (m1b + 1))] 99) = w2 at *
  clear hs1 him hw1
  generalize hc2 : m1b + 1 + 1 = c at *
  generalize hmb2 : m1b + 1 = mb at *
  refine (HRN.out c mb (by omega) (HA.out.imp id fun h a ha => by have := h a ha; omega) w2 ck0 T (Nat.le_refl _) hl (by omega) HRS.out (HR.out.ext HE2.out (by simp)) HC2.out).mono ?_
  rintro e w3 ⟨v3, rfl, hE3, hC3⟩
  have HC3 := hd hC3
  have HM3 := hd (HM2.out.ext hE3 (by simp; omega))
  have HE3 := hd (HE2.out.step hE3 (fun x hx => by simp at hx; right; omega))
  have qx := HM3.out.cell
  have ql := HM3.out.lt
  clear hE3 hC3
  go_wp2_with fail
  clear qx ql
  go_loopw [16] (fun i wr => ∃ k : Nat, i = .int .i64 k ∧ k ≤ Q ∧ Hd (PrAt wr c mb ⟨m0, m1, m2, m3, Q⟩ (waitAll T k)) ∧ Hd (Ext [] w wr)) (fun i _ => (Q - intOf i).toNat)
  case atStart => exact ⟨0, rfl, by omega, HC3, HE3⟩
  case round =>
    obtain ⟨k, rfl, hk, HCk, HEk⟩ := hrel
    rename World => w4
    by_cases hlt : k < Q
    · go_wp2_with fail
      refine (waitP_any _ c mb _ k _ (by omega) HCk.out).mono ?_
      rintro e w5 ⟨rfl, hE5, hC5⟩
      have HC5 := hd hC5
      have HE5 := hd (HEk.out.step hE5 (fun x hx => by simp at hx; right; omega))
      clear hE5 hC5
      go_wp2_with fail
      go_roundw
      case rel => exact ⟨k + 1, by go_num, by omega, HC5, HE5⟩
      case measure => simp [intOf]; omega
    · have hkQ : k = Q := by omega
      subst hkQ
      obtain ⟨c0, c1, c2, c3, c4, c5, c6⟩ := HCk.out.at
      have cl := HCk.out.lt
      rw [HPS.out] at c5
      go_wp2_with fail
      go_ret
      exact ⟨rfl, HEk.out⟩
end Go.Proofs.Ytedabpldigcffaa
namespace Go.Proofs.Ytedabpldigcffaa
open Go.RowKit
set_option linter.unusedSimpArgs false
set_option linter.unusedVariables false
attribute [local irreducible] relAt

theorem addI_put (o : Int → Int) (k v : Int) : addI o k v = putI o k (o k + v) := by
  funext j
  unfold addI putI
  split
  · rename_i h; rw [h]
  · rfl
/-- Where counted stands. -/
structure CtSt (xs : List Ins) (T : Int → Int) (E : Nat) (t : Int) (g q : Nat) (o : Int → Int) : Prop where
  fuel : xs.length ≤ q + g
  run : ctdS xs g q t o = T
  end' : (cnt xs g q).2 = E
  low : ∀ j, 0 ≤ o j
  high : ∀ j, T j ≤ 40000000
section
variable {xs : List Ins} {T : Int → Int} {E : Nat} {t : Int} {g q : Nat} {o : Int → Int} {x : Ins}
theorem CtSt.small (hm : loopsOk xs) (ht : 0 ≤ t) (h : CtSt xs T E t g q o) (j : Int) : 0 ≤ o j ∧ o j ≤ 40000000 :=
  ⟨h.low j, Int.le_trans (by have := ctdS_mono hm g q t o ht j; rw [h.run] at this; exact this) (h.high j)⟩
theorem CtSt.end (h : CtSt xs T E t g q o) (hx : xs[q]? = some x) (h4 : x.op = 4) : o = T ∧ q = E := ⟨by rw [← h.run, ctdS_end hx h4], by rw [← h.end', cnt_end hx h4]⟩
theorem CtSt.past (h : CtSt xs T E t g q o) (hq : xs.length ≤ q) : o = T ∧ q = E := ⟨by rw [← h.run, ctdS_past hq], by rw [← h.end', cnt_past hq]⟩
theorem CtSt.plain (ht : 0 ≤ t) (h : CtSt xs T E t (g + 1) q o) (hx : xs[q]? = some x) (h3 : x.op ≠ 3) (h4 : x.op ≠ 4) : CtSt xs T E t g (q + 1) (addI o x.op t) := by
  refine ⟨by have := h.fuel; omega, by rw [← h.run, ctdS_plain hx h3 h4], by rw [← h.end', cnt_plain hx h3 h4], fun j => ?_, h.high⟩
  have := h.low j
  have := addI_ge (o := o) (k := x.op) ht j
  omega
theorem CtSt.inner (hm : loopsOk xs) (ht : 0 ≤ t) (h : CtSt xs T E t (g + 1) q o) (hx : xs[q]? = some x) (h3 : x.op = 3) :
    0 ≤ t * x.m ∧ t * x.m ≤ 40000000 ∧ CtSt xs (ctdS xs g (q + 1) (t * x.m) (addI o x.op t)) (cnt xs g (q + 1)).2 (t * x.m) g (q + 1) (addI o x.op t) ∧ CtSt xs T E t g ((cnt xs g (q + 1)).2 + 1) (addI (ctdS xs g (q + 1) (t * x.m) (addI o x.op t)) 4 (t * x.m)) := by
  have hM := Int.mul_nonneg ht (hm x (List.mem_of_getElem? hx) h3).1
  have hr := h.run
  rw [ctdS_loop hx h3] at hr
  have h1 := fun j => addI_ge (o := o) (k := x.op) ht j
  have h2 := fun j => ctdS_mono hm g (q + 1) _ (addI o x.op t) hM j
  have h5 := fun j => addI_ge (o := ctdS xs g (q + 1) (t * x.m) (addI o x.op t)) (k := 4) hM j
  have h6 := fun j => ctdS_mono hm g ((cnt xs g (q + 1)).2 + 1) t (addI (ctdS xs g (q + 1) (t * x.m) (addI o x.op t)) 4 (t * x.m)) ht j
  rw [hr] at h6
  have hfu := h.fuel
  have hge := cnt_ge xs g (q + 1)
  refine ⟨hM, ?_, ⟨by omega, rfl, rfl, fun j => by have := h.low j; have := h1 j; omega, fun j => ?_⟩, ⟨by omega, hr, by rw [← h.end', cnt_loop hx h3], fun j => ?_, h.high⟩⟩
  · have a := h6 4
    have b := h.high 4
    have c := h.low 4
    have d := h1 4
    have e := h2 4
    have a2 : addI (ctdS xs g (q + 1) (t * x.m) (addI o x.op t)) 4 (t * x.m) 4 = ctdS xs g (q + 1) (t * x.m) (addI o x.op t) 4 + t * x.m := if_pos rfl
    rw [a2] at a
    omega
  · have := h5 j; have := h6 j; have := h.high j; omega
  · have := h5 j; have := h2 j; have := h1 j; have := h.low j; omega
end
theorem op_nat {o : Int} (h : 1 ≤ o ∧ o ≤ 19) : ∃ n : Nat, o = n ∧ 1 ≤ n ∧ n ≤ 19 := ⟨o.toNat, by omega, by omega, by omega⟩
/-- A row of twenty counts. -/
def CtB (w : World) (b : Nat) (o : Int → Int) : Prop := Blk w b 3 (Nums (rdL o 20))
section
variable {w w' : World} {b : Nat} {o : Int → Int}
theorem CtB.ext {S : List Nat} (h : CtB w b o) (hE : Ext S w w') (hb : b ∉ S) : CtB w' b o := Blk.ext h hE hb
theorem CtB.add (h : CtB w b o) (k : Nat) (v : Int) : CtB (w.setCell ⟨b, k, none⟩ (.int .i64 (o k + v))) b (addI o k v) := by
  unfold CtB
  rw [addI_put]
  exact Blk.set_' h k _ _ (rdL_put _ _ _ _)
theorem CtB.at (h : CtB w b o) (k : Nat) (hk : k < 20) : w.cell? ⟨b, k, none⟩ = some (.int .i64 (o k)) := by
  rw [Blk.cell h]; simp [Nums, rdL, hk]
end

/-- What counted leaves. -/
def CtP (b : Nat) (T : Int → Int) (E : Nat) (w : World) (e : Ending) (w' : World) : Prop := e = .returned (.int .i64 E) ∧ Ext [b] w w' ∧ CtB w' b T

set_option maxHeartbeats 4000000 in
set_option maxRecDepth 100000 in
theorem counted_any (m : Mc) (A : Option Addr) (cap b : Nat) (xs : List Ins) (hok : m.okB = true) (hc : codeE m 0 xs = 0) (hl : xs.length ≤ 100000) (hA : xs = [] ∨ ∀ a, A = some a → a.block ≠ b) :
    ∀ F f p (w : World) (t : Int) (o T : Int → Int) (E : Nat), f ≤ F → F ≤ 100000 → p ≤ xs.length → 0 ≤ t → t ≤ 40000000 → CtSt xs T E t f p o → RdC w A xs → CtB w b o →
      Calls Try.prog 68 #[.slice A xs.length cap, .int .i64 p, .int .i64 t, .slice (some ⟨b, 0, none⟩) 20 20] w (CtP b T E w) := by
  have HV := hd (codeE_valid hok hc)
  have HM := hd (codeE_loops hc)
  have HC := hd hc
  have HA := hd hA
  clear hok hc hA
  intro F
  induction F with
  | zero =>
    intro f p w t o T E hf hF hp ht0 ht1 hT hR hB
    have hf0 : f = 0 := by omega
    subst hf0
    have hpl : p = xs.length := by have := hT.fuel; omega
    subst hpl
    have HT := hd (hT.past (Nat.le_refl _))
    have HB := hd hB
    clear hT hB hR
    go_enter Try.func68, Try.ntmps68
    go_wp2_with fail
    go_loopw [1] (fun i wr => i = .int .i64 xs.length ∧ wr = w) (fun _ _ => 0)
    case atStart => exact ⟨rfl, rfl⟩
    case round =>
      obtain ⟨rfl, rfl⟩ := hrel
      go_wp2_with fail
      go_ret
      exact ⟨by rw [HT.out.2]; rfl, Ext.refl _ _, by rw [← HT.out.1]; exact HB.out⟩
  | succ F ih =>
    intro f p w t o T E hf hF hp ht0 ht1 hT hR hB
    have HI := hd ih
    have HT := hd hT
    have HR := hd hR
    have HB := hd hB
    clear ih hT hR hB
    go_enter Try.func68, Try.ntmps68
    go_wp2_with fail
    go_loopw [1] (fun i wr => ∃ (g q : Nat) (u : Int → Int), i = .int .i64 q ∧ g ≤ F + 1 ∧ q ≤ xs.length ∧ Hd (CtSt xs T E t g q u) ∧ Hd (CtB wr b u) ∧ Hd (Ext [b] w wr)) (fun i _ => (xs.length - intOf i).toNat)
    case atStart => exact ⟨f, p, o, rfl, hf, hp, HT, HB, hd (Ext.refl _ _)⟩
    case round =>
      obtain ⟨g, q, u, rfl, hg, hq, HT, HB, HE⟩ := hrel
      rename World => w1
      have hbl := Blk.lt HB.out
      by_cases hlt : q < xs.length
      · obtain ⟨x, hx⟩ : ∃ x, xs[q]? = some x := ⟨_, List.getElem?_eq_getElem hlt⟩
        have HRr := hd (HR.out.exto HE.out (HA.out.imp id fun h a ha => by have := h a ha; simp; omega))
        obtain ⟨b1, o1, rfl, hbl1, hcx⟩ := HRr.out.at hx
        have hbne : b1 ≠ b := (HA.out.resolve_left (by rintro rfl; simp at hlt)) ⟨b1, o1, none⟩ rfl
        have h0 := hcx 0 _ rfl
        have h8 := hcx 8 _ rfl
        simp only [Nat.add_zero] at h0
        have HX := hd hx
        have HVX := hd (HV.out x (List.mem_of_getElem? hx))
        clear hcx hx
        cases g with
        | zero => have := HT.out.fuel; omega
        | succ g =>
          obtain ⟨xo, xk, xd, xa, xb, xc, xp, xn, xm⟩ := x
          simp only at h0 h8
          by_cases hop4 : xo = 4
          · have HZ := hd (HT.out.end HX.out hop4)
            subst hop4
            go_wp2_with fail
            go_ret
            exact ⟨by rw [HZ.out.2]; rfl, HE.out, by rw [← HZ.out.1]; exact HB.out⟩
          have hn4 : (xo == 4) = false := by simpa using hop4
          by_cases h3 : xo = 3
          · have hlo := HVX.out.lo h3
            have hxm0 : 0 ≤ xm := hlo.1
            have hxm1 : xm ≤ 1000000 := hlo.2
            obtain ⟨hM0, hM1, hI1, hI2⟩ := HT.out.inner HM.out ht0 HX.out h3
            simp only at hM0 hM1 hI1 hI2
            have hfu : xs.length ≤ q + 1 + g := by have := HT.out.fuel; omega
            have hin : (cnt xs g (q + 1)).2 < xs.length := by
              obtain ⟨y, hy, _⟩ := ends_in HC.out HX.out h3 hfu
              exact (List.getElem?_eq_some_iff.1 hy).1
            have hge := cnt_ge xs g (q + 1)
            subst h3
            have hu3 := HT.out.small HM.out ht0 ((3 : Nat) : Int)
            have hu0 := hu3.1
            have hu1 := hu3.2
            have HI1 := hd hI1
            have HI2 := hd hI2
            have q3 := HB.out.at 3 (by omega)
            have qf := Blk.frozen HB.out 3
            have HB2 : Hd (CtB (w1.setCell ⟨b, 3, none⟩ (.int .i64 (u ((3 : Nat) : Int) + t))) b (addI u 3 t)) := hd (HB.out.add 3 t)
            have HE2 := hd (HE.out.setCell (p := ⟨b, 3, none⟩) (.inl (by simp)) (.int .i64 (u ((3 : Nat) : Int) + t)))
            have HR2 := hd (HR.out.exto HE2.out (HA.out.imp id fun h a ha => by have := h a ha; simp; omega))
            generalize u ((3 : Nat) : Int) = u3 at *
            clear hu3 hlo hI1 hI2 hop4 hn4
            go_wp2_with fail
            generalize w1.setCell ⟨b, 3, none⟩ (.int .i64 (u3 + t)) = w2 at *
            generalize t * xm = n at *
            refine (HI.out g (q + 1) _ _ _ _ _ (by omega) (by omega) (by omega) hM0 hM1 HI1.out HR2.out HB2.out).mono ?_
            rintro e w3 ⟨rfl, hE3, hB3⟩
            have hu4 := HI2.out.small HM.out ht0 ((4 : Nat) : Int)
            generalize hTT : ctdS xs g (q + 1) n (addI u 3 t) = TT at *
            have hv0 : 0 ≤ TT ((4 : Nat) : Int) := by
              have h1 := ctdS_mono HM.out g (q + 1) n (addI u 3 t) hM0 ((4 : Nat) : Int)
              have h2 := HI1.out.low ((4 : Nat) : Int)
              rw [hTT] at h1
              omega
            have hv1 : TT ((4 : Nat) : Int) ≤ 40000000 := by
              have h1 := addI_ge (o := TT) (k := 4) hM0 ((4 : Nat) : Int)
              omega
            have q4 := CtB.at hB3 4 (by omega)
            have qf4 := Blk.frozen hB3 4
            have HB4 : Hd (CtB (w3.setCell ⟨b, 4, none⟩ (.int .i64 (TT ((4 : Nat) : Int) + n))) b (addI TT 4 n)) := hd (hB3.add 4 n)
            have HE4 := hd ((HE2.out.trans hE3).setCell (p := ⟨b, 4, none⟩) (.inl (by simp)) (.int .i64 (TT ((4 : Nat) : Int) + n)))
            have qbl := Blk.lt hB3
            generalize TT ((4 : Nat) : Int) = u4 at *
            generalize (cnt xs g (q + 1)).2 = E1 at *
            clear hE3 hB3 hTT hu4
            go_wp2_with fail
            go_roundw
            case rel => exact ⟨g, E1 + 1, addI TT 4 n, by go_num, by omega, by omega, HI2, HB4, HE4⟩
            case measure => simp [intOf]; omega
          · have hn3 : (xo == 3) = false := by simpa using h3
            have HST := hd (HT.out.plain ht0 HX.out h3 hop4)
            obtain ⟨k, rfl, hk1, hk2⟩ := op_nat HVX.out.op
            have huk := HT.out.small HM.out ht0 ((k : Nat) : Int)
            have hu0 := huk.1
            have hu1 := huk.2
            have q3 := HB.out.at k (by omega)
            have qf := Blk.frozen HB.out k
            have HB2 : Hd (CtB (w1.setCell ⟨b, k, none⟩ (.int .i64 (u ((k : Nat) : Int) + t))) b (addI u k t)) := hd (HB.out.add k t)
            have HE2 := hd (HE.out.setCell (p := ⟨b, k, none⟩) (.inl (by simp)) (.int .i64 (u ((k : Nat) : Int) + t)))
            generalize u ((k : Nat) : Int) = uk at *
            clear huk h3 hop4
            go_wp2_with fail
            go_roundw
            case rel => exact ⟨g, q + 1, addI u k t, by go_num, by omega, by omega, HST, HB2, HE2⟩
            case measure => simp [intOf]; omega
      · have HZ := hd (HT.out.past (by omega))
        go_wp2_with fail
        go_ret
        exact ⟨by rw [HZ.out.2]; rfl, HE.out, by rw [← HZ.out.1]; exact HB.out⟩

theorem make_20 : ∀ W : World, (Instr.makeSlice 22 (.int .i64 20) (.int .i64 20)).run Try.prog W = .ok (.slice (some ⟨W.heap.size, 0, none⟩) 20 20) (W.alloc (.cells (Nums (List.replicate 20 0)) 3)) := make_zeros 20 (by omega)
/-- Twenty counts that lie in a new row. -/
def CntsP (T : Int → Int) (v : Value → Value) (w : World) (e : Ending) (w' : World) : Prop := ∃ b : Nat, e = .returned (v (.slice (some ⟨b, 0, none⟩) 20 20)) ∧ Ext [] w w' ∧ CtB w' b T
set_option maxHeartbeats 2000000 in
set_option maxRecDepth 100000 in
theorem executions_any (m : Mc) (A : Option Addr) (cap : Nat) (xs : List Ins) (w : World) (h : RdC w A xs) (hl : xs.length ≤ 100000) (hA : xs = [] ∨ ∀ a, A = some a → a.block < w.heap.size) (h0 : checkS m xs = 0) :
    Calls Try.prog 38 #[.slice A xs.length cap] w (CntsP (fun j => sumJ j [1] xs) id w) := by
  obtain ⟨hok, hc, ht⟩ := checkS_zero h0
  have HCT := hd (fun (b : Nat) (hA : xs = [] ∨ ∀ a, A = some a → a.block ≠ b) => counted_any m A cap b xs hok hc hl hA xs.length xs.length 0)
  have HST : Hd (CtSt xs (fun j => sumJ j [1] xs) (cnt xs xs.length 0).2 1 xs.length 0 (fun _ => 0)) := hd ⟨by omega, by funext j; exact ctd_all hc ht j, rfl, fun _ => Int.le_refl _, fun j => by have := ctd_le hc ht j; rw [ctd_all hc ht] at this; exact this⟩
  have HR := hd h
  have HA := hd hA
  have hmk := make_20
  have HB1 : Hd (CtB (w.alloc (.cells (Nums (List.replicate 20 0)) 3)) w.heap.size (fun _ => 0)) := hd (by unfold CtB; rw [rdL_zero]; exact Blk.new _ _ _)
  have HE1 := hd ((Ext.refl [] w).alloc (.cells (Nums (List.replicate 20 0)) 3))
  clear h hA h0 hok hc ht
  generalize Nums (List.replicate 20 0) = z20 at *
  go_enter Try.func38, Try.ntmps38
  go_wp2_with fail
  refine (HCT.out _ (HA.out.imp id fun h a ha => by have := h a ha; omega) _ _ _ _ _ (Nat.le_refl _) hl (by omega) (by omega) (by omega) HST.out (HR.out.ext HE1.out (by simp)) HB1.out).mono ?_
  rintro e w2 ⟨rfl, hE2, hB2⟩
  have HB2 := hd hB2
  have HE2 := hd (HE1.out.step hE2 (fun x hx => by simp at hx; right; omega))
  generalize (cnt xs xs.length 0).2 = E at *
  clear hE2 hB2
  go_wp2_with fail
  go_ret
  exact ⟨_, rfl, HE2.out, HB2.out⟩

theorem turns_new {w w' : World} {b b0 : Nat} {xs : List Ins} (h0 : Blk w b0 3 (Nums (List.replicate 20 0))) (hE : Ext [] w w') (h : Blk w' b 3 (Nums (turnsS xs))) : b ≠ b0 := by
  rintro rfl
  have h1 := h0.ext hE (by simp)
  have h2 : Nums (turnsS xs) = Nums (List.replicate 20 0) := by
    have h3 := h.symm.trans h1
    simp only [Option.some.injEq, Obj.cells.injEq] at h3
    exact h3.1
  cases xs with
  | nil =>
    have := congrArg Array.size h2
    simp [Nums, turnsS] at this
  | cons x xs =>
    have h3 : (Nums (turnsS (x :: xs)))[0]? = (Nums (List.replicate 20 0))[0]? := by rw [h2]
    simp [Nums, turnsS, stAt] at h3
theorem sumJ_take {xs : List Ins} {k : Nat} {x : Ins} (hx : xs[k]? = some x) (j : Int) : sumJ j [1] (xs.take (k + 1)) = addI (fun j => sumJ j [1] (xs.take k)) x.op ((stAt xs k).headD 0) j := by
  rw [List.take_add_one, hx]
  show sumJ j [1] (xs.take k ++ [x]) = _
  rw [sumJ_snoc]
  unfold addI stAt
  by_cases hj : x.op = j
  · rw [if_pos hj, if_pos hj.symm]
  · rw [if_neg hj, if_neg (Ne.symm hj), Int.add_zero]
set_option maxHeartbeats 2000000 in
set_option maxRecDepth 100000 in
theorem counts_bad (m : Mc) (A : Option Addr) (cap : Nat) (xs : List Ins) (w : World) (h : RdC w A xs) (hl : xs.length ≤ 100000) (hb : checkS m xs ≠ 0) :
    Calls Try.prog 36 #[.agg m.cells.toArray, .slice A xs.length cap] w fun e w' => e = .returned (.tuple #[.slice none 0 0, .int .i64 (checkS m xs)]) ∧ Ext [] w w' := by
  have HCK := hd (fun W (hW : RdC W A xs) => check_any m A cap xs W hW hl)
  have HR := hd h
  obtain ⟨m0, m1, m2, m3, m4⟩ := m
  generalize checkS ⟨m0, m1, m2, m3, m4⟩ xs = cv at *
  have hb2 : (cv != 0) = true := by simpa using hb
  clear h hb
  simp only [Mc.cells] at *
  go_enter Try.func36, Try.ntmps36
  go_wp2_with fail
  refine (HCK.out _ (HR.out.ext ((Ext.refl [] _).alloc _) (by simp))).mono ?_
  rintro e w1 ⟨rfl, hE1⟩
  have HE1 := hd (((Ext.refl [] w).alloc _).trans hE1)
  clear hE1
  go_wp2_with fail
  go_ret2
  exact ⟨rfl, HE1.out⟩
set_option maxHeartbeats 4000000 in
set_option maxRecDepth 100000 in
theorem counts_ok (m : Mc) (A : Option Addr) (cap : Nat) (xs : List Ins) (w : World) (h : RdC w A xs) (hl : xs.length ≤ 100000) (hA : xs = [] ∨ ∀ a, A = some a → a.block < w.heap.size) (h0 : checkS m xs = 0) :
    Calls Try.prog 36 #[.agg m.cells.toArray, .slice A xs.length cap] w (CntsP (fun j => sumJ j [1] xs) (fun v => .tuple #[v, .int .i64 0]) w) := by
  have HCK := hd (fun W (hW : RdC W A xs) => check_any m A cap xs W hW hl)
  rw [h0] at HCK
  obtain ⟨hok, hc, ht⟩ := checkS_zero h0
  have HV := hd (codeE_valid hok hc)
  have HM := hd (codeE_loops hc)
  have HTU := hd (fun W (hW : RdC W A xs) => turns_any A cap xs W hW hl (codeE_loops hc) (codeE_stack [1] hc (by simp)))
  have HR := hd h
  have HA := hd hA
  have hmk := make_20
  obtain ⟨z20, hz⟩ : ∃ z, z = Nums (List.replicate 20 0) := ⟨_, rfl⟩
  simp only [← hz] at hmk
  have HZ := hd hz
  clear hz
  obtain ⟨m0, m1, m2, m3, m4⟩ := m
  clear h hA h0 hok hc ht
  simp only [Mc.cells] at *
  go_enter Try.func36, Try.ntmps36
  go_wp2_with fail
  refine (HCK.out _ (HR.out.ext ((Ext.refl [] _).alloc _) (by simp))).mono ?_
  rintro e w1 ⟨rfl, hE1⟩
  have HE1 := hd (((Ext.refl [] w).alloc _).trans hE1)
  have HB1 : Hd (Blk (w1.alloc (.cells z20 3)) w1.heap.size 3 z20) := hd (Blk.new _ _ _)
  have HE2 := hd (HE1.out.alloc (.cells z20 3))
  clear hE1
  go_wp2_with fail
  generalize w1.alloc (.cells z20 3) = w2 at *
  generalize hob : w1.heap.size = ob at *
  have hob2 : w.heap.size ≤ ob := by have := HE1.out.size; omega
  refine (HTU.out w2 (HR.out.ext HE2.out (by simp))).mono ?_
  rintro e w3 ⟨tb, rfl, hE3, hB3⟩
  have HNE := hd (turns_new (by rw [← HZ.out]; exact HB1.out) hE3 hB3)
  have HT3 := hd hB3
  have HB3 : Hd (CtB w3 ob (fun j => sumJ j [1] (xs.take 0))) := hd (by
    have := HB1.out.ext hE3 (by simp)
    unfold CtB
    rw [List.take_zero]
    show Blk w3 ob _ (Nums (rdL (fun _ => 0) 20))
    rw [rdL_zero, ← HZ.out]
    exact this)
  have HE3 := hd (HE2.out.trans hE3)
  clear hE3 hB3
  go_wp2_with fail
  go_loopw [20] (fun i wr => ∃ k : Nat, i = .int .i64 k ∧ k ≤ xs.length ∧ Hd (CtB wr ob (fun j => sumJ j [1] (xs.take k))) ∧ Hd (Ext [ob] w3 wr)) (fun i _ => (xs.length - intOf i).toNat)
  case atStart => exact ⟨0, rfl, by omega, HB3, hd (Ext.refl _ _)⟩
  case round =>
    obtain ⟨k, rfl, hk, HBk, HEk⟩ := hrel
    rename World => w4
    by_cases hlt : k < xs.length
    · obtain ⟨x, hx⟩ : ∃ x, xs[k]? = some x := ⟨_, List.getElem?_eq_getElem hlt⟩
      have HR4 := hd ((HR.out.ext HE3.out (by simp)).exto HEk.out (HA.out.imp id fun h a ha => by have := h a ha; simp; omega))
      obtain ⟨b1, o1, rfl, hbl1, hcx⟩ := HR4.out.at hx
      have h0 := hcx 0 _ rfl
      simp only [Nat.add_zero] at h0
      have HX := hd hx
      have HTK := hd (fun j => sumJ_take hx j)
      have hop := (HV.out x (List.mem_of_getElem? hx)).op
      obtain ⟨ko, hko, hko1, hko2⟩ := op_nat hop
      have htb : w4.cell? ⟨tb, k, none⟩ = some (.int .i64 ((stAt xs k).headD 0)) := by
        rw [(HT3.out.ext HEk.out (by simpa using HNE.out)).cell]
        simp [Nums, turnsS, hlt]
      have htl := (HT3.out.ext HEk.out (by simpa using HNE.out)).lt
      have htt : 0 ≤ (stAt xs k).headD 0 ∧ (stAt xs k).headD 0 ≤ 40000001 := by
        have hb := stAt_bound HM.out k
        cases hs : stAt xs k with
        | nil => simp
        | cons a st => exact hb a (by rw [hs]; simp)
      have hu := sumJ_bound (xs := xs.take k) ko [1] (fun y hy => HM.out y (List.mem_of_mem_take hy)) (by simp)
      have hu2 : (xs.take k).length ≤ 100000 := by rw [List.length_take]; omega
      have q3 := HBk.out.at ko (by omega)
      have qf := Blk.frozen HBk.out ko
      have ql := Blk.lt HBk.out
      have HB5 := hd (HBk.out.add ko ((stAt xs k).headD 0))
      have HBN : Hd (∀ W, CtB W ob (addI (fun j => sumJ j [1] (xs.take k)) ko ((stAt xs k).headD 0)) → CtB W ob (fun j => sumJ j [1] (xs.take (k + 1)))) := hd (fun W hW => by
        have e : (fun j => sumJ j [1] (xs.take (k + 1))) = addI (fun j => sumJ j [1] (xs.take k)) ko ((stAt xs k).headD 0) := by
          funext j
          rw [HTK.out j, hko]
        rw [e]
        exact hW)
      have HE5 := hd (HEk.out.setCell (p := ⟨ob, ko, none⟩) (.inl (by simp)) (.int .i64 (sumJ ko [1] (xs.take k) + (stAt xs k).headD 0)))
      rw [hko] at h0
      generalize (stAt xs k).headD 0 = tk at *
      obtain ⟨uk, huk⟩ : ∃ uk, uk = sumJ ko [1] (xs.take k) := ⟨_, rfl⟩
      rw [← huk] at q3 HE5 hu
      have hu0 := hu.1
      have hu1 : uk ≤ 40000001 * 100000 := by have := hu.2; omega
      have ht0 := htt.1
      have ht1 := htt.2
      simp only [← huk] at HB5
      clear hcx hx hko hop hu htt huk
      go_wp2_with fail
      go_roundw
      case rel => exact ⟨k + 1, by go_num, by omega, hd (HBN.out _ HB5.out), HE5⟩
      case measure => simp [intOf]; omega
    · have hke : k = xs.length := by omega
      subst hke
      go_wp2_with fail
      go_ret2
      exact ⟨_, rfl, HE3.out.step HEk.out (fun x hx => by simp at hx; right; omega), by have := HBk.out; rw [List.take_length] at this; exact this⟩
end Go.Proofs.Ytedabpldigcffaa
