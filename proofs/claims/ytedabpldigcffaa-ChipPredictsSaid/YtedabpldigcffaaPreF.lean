/- The simulator's clock: the walk. -/
import Derived.Test.YtedabpldigcffaaPreE
import Derived.Lib.MinMax
import Derived.IntWalk
namespace Go.Proofs.Ytedabpldigcffaa
open Go.RowKit
set_option linter.unusedSimpArgs false
set_option linter.unusedVariables false
attribute [local irreducible] relAt

theorem RdC.exto {S : List Nat} {w w' : World} {A : Option Addr} {xs : List Ins} (h : RdC w A xs) (hE : Ext S w w') (hS : xs = [] ∨ ∀ a, A = some a → a.block ∉ S) : RdC w' A xs := by
  rcases hS with h0 | hS
  · exact .inl h0
  · exact h.ext hE hS
def ckCells (m : Mc) (s : Ck) (rb Q : Nat) : Array Value := #[.int .i64 m.main, .int .i64 m.banks, .int .i64 m.bank, .int .i64 m.lanes, .int .i64 m.queues, .int .i64 s.cyc, .slice (some ⟨rb, 0, none⟩) Q Q]
/-- A clock lies in block c; when the queues are ready, in block rb. -/
structure CkAt (w : World) (c rb Q : Nat) (m : Mc) (s : Ck) : Prop where
  blk : Blk w c 133 (ckCells m s rb Q)
  row : Blk w rb 3 (Nums (rdL s.rd Q))
  ne : rb ≠ c
section
variable {w w' : World} {c rb Q : Nat} {m : Mc} {s : Ck}
theorem CkAt.ext {S : List Nat} (h : CkAt w c rb Q m s) (hE : Ext S w w') (h1 : c ∉ S) (h2 : rb ∉ S) : CkAt w' c rb Q m s := ⟨h.blk.ext hE h1, h.row.ext hE h2, h.ne⟩
theorem CkAt.cyc (h : CkAt w c rb Q m s) (v : Int) : CkAt (w.setCell ⟨c, 5, none⟩ (.int .i64 v)) c rb Q m ⟨v, s.rd⟩ := ⟨h.blk.set_' 5 _ _ rfl, h.row.far h.ne _, h.ne⟩
theorem CkAt.rd (h : CkAt w c rb Q m s) (d : Nat) (v : Int) : CkAt (w.setCell ⟨rb, d, none⟩ (.int .i64 v)) c rb Q m ⟨s.cyc, putI s.rd (d : Nat) v⟩ := ⟨h.blk.far (Ne.symm h.ne) _, h.row.set_' d _ _ (rdL_put _ _ _ _), h.ne⟩
theorem CkAt.lt (h : CkAt w c rb Q m s) : c < w.heap.size ∧ rb < w.heap.size := ⟨h.blk.lt, h.row.lt⟩
theorem CkAt.at (h : CkAt w c rb Q m s) : w.cell? ⟨c, 0, none⟩ = some (.int .i64 m.main) ∧ w.cell? ⟨c, 1, none⟩ = some (.int .i64 m.banks) ∧ w.cell? ⟨c, 2, none⟩ = some (.int .i64 m.bank) ∧ w.cell? ⟨c, 3, none⟩ = some (.int .i64 m.lanes) ∧ w.cell? ⟨c, 4, none⟩ = some (.int .i64 m.queues) ∧ w.cell? ⟨c, 5, none⟩ = some (.int .i64 s.cyc) ∧ w.cell? ⟨c, 6, none⟩ = some (.slice (some ⟨rb, 0, none⟩) Q Q) :=
  ⟨h.blk.cell 0, h.blk.cell 1, h.blk.cell 2, h.blk.cell 3, h.blk.cell 4, h.blk.cell 5, h.blk.cell 6⟩
theorem CkAt.ready (h : CkAt w c rb Q m s) {d : Nat} (hd : d < Q) : w.cell? ⟨rb, d, none⟩ = some (.int .i64 (s.rd (d : Nat))) := by
  rw [h.row.cell]
  simp [Nums, rdL, hd]
end

/-- What pass leaves. -/
def PassP (c rb Q : Nat) (m : Mc) (T : Ck) (w : World) (e : Ending) (w' : World) : Prop := ∃ v : Int, e = .returned (.int .i64 v) ∧ Ext [c, rb] w w' ∧ CkAt w' c rb Q m T

set_option maxHeartbeats 4000000 in
set_option maxRecDepth 100000 in
theorem pass_any (m : Mc) (A : Option Addr) (cap eb c rb Q : Nat) (xs : List Ins) (hok : m.okB = true) (hc : codeE m 0 xs = 0) (hl : xs.length ≤ 100000) (hQ : m.queues = Q) (hcr : rb ≠ c) (hA : xs = [] ∨ ∀ a, A = some a → a.block ≠ c ∧ a.block ≠ rb) (he : eb ≠ c ∧ eb ≠ rb) :
    ∀ F f p (w : World) (s T : Ck), f ≤ F → F ≤ 100000 → p ≤ xs.length → RunSt (ckStep m.lanes) xs T f p s → RdC w A xs → Blk w eb 3 (Nums (endsL xs xs.length)) → CkAt w c rb Q m s →
      Calls Try.prog 82 #[.pointer (some ⟨c, 0, none⟩), .slice A xs.length cap, .slice (some ⟨eb, 0, none⟩) xs.length xs.length, .int .i64 p] w (PassP c rb Q m T w) := by
  have hmc := mc_ok hok
  have HV := hd (codeE_valid hok hc)
  have HM := hd (codeE_loops hc)
  have HS : Hd (∀ x ∈ xs, ∀ c s, CkB c s → CkB (c + 5000) (ckStep m.lanes x s)) := hd (fun x hx c s hb => hb.ck (by omega) (by omega) (HV.out x hx))
  have HC := hd hc
  have HA := hd hA
  obtain ⟨he1, he2⟩ := he
  have HQ := hd hQ
  have hq4 : Q ≤ 4 := by omega
  clear hok hc hA hQ
  intro F
  induction F with
  | zero =>
    intro f p w s T hf hF hp hT hR hEB hCK
    have hf0 : f = 0 := by omega
    subst hf0
    have hpl : p = xs.length := by have := hT.fuel; omega
    subst hpl
    have HT := hd (hT.past (Nat.le_refl _))
    have HCK := hd hCK
    clear hT hCK hEB hR hmc
    go_enter Try.func82, Try.ntmps82
    go_wp2_with fail
    go_loopw [9] (fun i wr => i = .int .i64 xs.length ∧ wr = w) (fun _ _ => 0)
    case atStart => exact ⟨rfl, rfl⟩
    case round =>
      obtain ⟨rfl, rfl⟩ := hrel
      go_wp2_with fail
      go_ret
      exact ⟨_, rfl, Ext.refl _ _, by rw [← HT.out]; exact HCK.out⟩
  | succ F ih =>
    intro f p w s T hf hF hp hT hR hEB hCK
    have HI := hd ih
    have HT := hd hT
    have HR := hd hR
    have HEB := hd hEB
    have HCK := hd hCK
    clear ih hT hR hEB hCK
    go_enter Try.func82, Try.ntmps82
    go_wp2_with fail
    go_loopw [9] (fun i wr => ∃ (g q : Nat) (t : Ck), i = .int .i64 q ∧ g ≤ F + 1 ∧ q ≤ xs.length ∧ Hd (RunSt (ckStep m.lanes) xs T g q t) ∧ Hd (CkAt wr c rb Q m t) ∧ Hd (Ext [c, rb] w wr)) (fun i _ => (xs.length - intOf i).toNat)
    case atStart => exact ⟨f, p, s, rfl, hf, hp, HT, HCK, hd (Ext.refl _ _)⟩
    case round =>
      obtain ⟨g, q, t, rfl, hg, hq, HT, HCK, HE⟩ := hrel
      have hclt := HCK.out.lt.1
      have hrlt := HCK.out.lt.2
      by_cases hlt : q < xs.length
      · obtain ⟨x, hx⟩ : ∃ x, xs[q]? = some x := ⟨_, List.getElem?_eq_getElem hlt⟩
        obtain ⟨b, o, rfl, hbl, hcx⟩ := (HR.out.exto HE.out (HA.out.imp id fun h a ha => by have := h a ha; simp; omega)).at hx
        have h0 := hcx 0 _ rfl
        have h1 := hcx 1 _ rfl
        have h2 := hcx 2 _ rfl
        have h3 := hcx 3 _ rfl
        have h4 := hcx 4 _ rfl
        have h5 := hcx 5 _ rfl
        have h6 := hcx 6 _ rfl
        have h7 := hcx 7 _ rfl
        have h8 := hcx 8 _ rfl
        simp only [Nat.add_zero] at h0
        have HX := hd hx
        have HVX := hd (HV.out x (List.mem_of_getElem? hx))
        clear hcx hx
        cases g with
        | zero => have := HT.out.fuel; omega
        | succ g =>
          obtain ⟨xo, xk, xd, xa, xb, xc, xp, xn, xm⟩ := x
          simp only at h0 h1 h2 h3 h4 h5 h6 h7 h8
          have hopv := HVX.out.op
          have HPR : Hd (∀ W, Calls Try.prog 102 #[.agg #[.int .i64 m.main, .int .i64 m.banks, .int .i64 m.bank, .int .i64 m.lanes, .int .i64 m.queues], .agg #[.int .i64 xo, .int .i64 xk, .int .i64 xd, .int .i64 xa, .int .i64 xb, .int .i64 xc, .int .i64 xp, .int .i64 xn, .int .i64 xm]] W fun e w' => e = .returned (.int .i64 (priceS m.lanes ⟨xo, xk, xd, xa, xb, xc, xp, xn, xm⟩)) ∧ Ext [] W w') := hd (fun W => price_any m ⟨xo, xk, xd, xa, xb, xc, xp, xn, xm⟩ W HVX.out.op)
          have hsm := HT.out.small HM.out
          have hcy0 := hsm.1
          have hcy1 := hsm.2.1
          have HRB := hd hsm.2.2
          have hpb := priceS_bound (lanes := m.lanes) (by omega) ⟨xo, xk, xd, xa, xb, xc, xp, xn, xm⟩
          clear hsm
          by_cases hop4 : xo = 4
          · have HZ := hd (HT.out.end HX.out hop4)
            subst hop4
            go_wp2_with fail
            go_ret
            exact ⟨_, rfl, HE.out.alloc _, by rw [← HZ.out]; exact HCK.out.ext ((Ext.refl [] _).alloc _) (by simp) (by simp)⟩
          have HX1 := hd (Blk.new wr 64 #[.int .i64 xo, .int .i64 xk, .int .i64 xd, .int .i64 xa, .int .i64 xb, .int .i64 xc, .int .i64 xp, .int .i64 xn, .int .i64 xm])
          have HC1 : Hd (CkAt (wr.alloc (.cells #[.int .i64 xo, .int .i64 xk, .int .i64 xd, .int .i64 xa, .int .i64 xb, .int .i64 xc, .int .i64 xp, .int .i64 xn, .int .i64 xm] 64)) c rb Q m t) := hd (HCK.out.ext ((Ext.refl [] _).alloc _) (by simp) (by simp))
          have HE1 := hd (HE.out.alloc (.cells #[.int .i64 xo, .int .i64 xk, .int .i64 xd, .int .i64 xa, .int .i64 xb, .int .i64 xc, .int .i64 xp, .int .i64 xn, .int .i64 xm] 64))
          have hn4 : (xo == 4) = false := by simpa using hop4
          by_cases h18 : xo = 18
          · have hd0 := HVX.out.d.1
            have hq1 := HVX.out.q (.inl h18)
            obtain ⟨d, rfl⟩ : ∃ d : Nat, xd = d := ⟨xd.toNat, by simp only at hd0; omega⟩
            have hdQ : d < Q := by have := HQ.out; simp only at hq1; omega
            have hrd0 := (HRB.out d).1
            have hrd1 := (HRB.out d).2
            clear hd0 hq1
            have hks := HVX.out.ks h18
            have hxm0 : 1 ≤ xm := by simp only at hks; omega
            have hxm1 : xm ≤ 4096 := by simp only at hks; omega
            have HST := hd (HT.out.plain HS.out HX.out (by simp only; omega) hop4)
            have HSE : Hd (ckStep m.lanes ⟨xo, xk, d, xa, xb, xc, xp, xn, xm⟩ t = ⟨max t.cyc (t.rd d) + 2, putI t.rd d (max t.cyc (t.rd d) + 2 + 8 + xm)⟩) := hd (by simp only [ckStep, if_pos h18, priceS, h18]; rfl)
            have HP2 : Hd (priceS m.lanes ⟨xo, xk, d, xa, xb, xc, xp, xn, xm⟩ = 2) := hd (by simp only [priceS, h18]; rfl)
            rw [HP2.out] at HPR
            subst h18
            clear hks hop4 hpb hn4
            obtain ⟨M, hM⟩ : ∃ M, M = max t.cyc (t.rd d) := ⟨_, rfl⟩
            have hM0 : 0 ≤ M := by omega
            have hM1 : M ≤ 1000000000000 := by omega
            rw [← hM] at HSE
            have HMM := hd hM
            have hmx := hM.symm
            clear hM
            go_wp2_with fail
            generalize wr.alloc (.cells #[.int .i64 18, .int .i64 xk, .int .i64 d, .int .i64 xa, .int .i64 xb, .int .i64 xc, .int .i64 xp, .int .i64 xn, .int .i64 xm] 64) = w1 at *
            generalize hxb : wr.heap.size = xbk at *
            clear h0 h1 h2 h3 h4 h5 h6 h7 h8
            refine wp_region_rel 14 (JE _) (Ext []) (kinds []) (by kernel_rfl) (by kernel_rfl) JE.less ?_ JE.start ?_
            · repeat (first | exact Stays.nil | refine Stays.cons sFix.stays ?_)
            simp only [List.take_succ_cons, List.take_zero, List.drop_succ_cons, List.drop_zero]
            repeat
              refine relAt_det rfl rfl ?_
              apply Exists.intro
              refine ⟨fun wr nr hJ => ?_, ?_⟩
              · have hC := HC1.out.ext hJ (by simp) (by simp); obtain ⟨c0, c1, c2, c3, c4, c5, c6⟩ := hC.at; have cl := hC.lt.1; have cr := hC.lt.2; have rdy := hC.ready hdQ; have qx := HX1.out.ext hJ (by simp); have qxc := qx.cell; have qxl := qx.lt; clear qx hC
                clear hJ
                (go_simp; try go_bits)
                first | rfl | exact ⟨rfl, rfl⟩
              simp only [Act.put, List.setIfInBounds_toArray, List.set_cons_succ, List.set_cons_zero]
            refine relAt_nil (fun w2 hJ hF => ?_)
            have HC2 := hd (HC1.out.ext hJ (by simp) (by simp))
            have HX2 := hd (HX1.out.ext hJ (by simp))
            have HE2 := hd (HE1.out.trans hJ.nil)
            obtain ⟨c0, c1, c2, c3, c4, c5, c6⟩ := HC2.out.at
            have cl := HC2.out.lt.1
            have cr := HC2.out.lt.2
            have cf := HC2.out.blk.frozen 5
            have qxc := HX2.out.cell
            have qxl := HX2.out.lt
            clear hJ hF
            have qne : c ≠ xbk := by omega
            go_wp2_with fail
            have HC3 := hd (HC2.out.cyc M)
            have HX3 := hd (HX2.out.far (p := ⟨c, 5, none⟩) (Ne.symm qne) (.int .i64 M))
            have HE3 := hd (HE2.out.setCell (p := ⟨c, 5, none⟩) (.inl (by simp)) (.int .i64 M))
            clear c0 c1 c2 c3 c4 c5 c6 cl cr cf qxc qxl
            generalize w2.setCell ⟨c, 5, none⟩ (.int .i64 M) = w3 at *
            refine wp_region_rel 10 (JE _) (Ext []) (kinds [(9, sFix (.int .i64 2))]) (by kernel_rfl) (by kernel_rfl) JE.less ?_ JE.start ?_
            · repeat (first | exact Stays.nil | refine Stays.cons sFix.stays ?_)
            simp only [List.take_succ_cons, List.take_zero, List.drop_succ_cons, List.drop_zero]
            repeat
              refine relAt_det rfl rfl ?_
              apply Exists.intro
              refine ⟨fun wr nr hJ => ?_, ?_⟩
              · have hC := HC3.out.ext hJ (by simp) (by simp); obtain ⟨c0, c1, c2, c3, c4, c5, c6⟩ := hC.at; have cl := hC.lt.1; have cr := hC.lt.2; have qx := HX3.out.ext hJ (by simp); have qxc := qx.cell; have qxl := qx.lt; clear qx hC
                clear hJ
                (go_simp; try go_bits)
                first | rfl | exact ⟨rfl, rfl⟩
              simp only [Act.put, List.setIfInBounds_toArray, List.set_cons_succ, List.set_cons_zero]
            refine rel_fix rfl rfl ?_ ?_
            · apply Exists.intro
              apply Exists.intro
              refine ⟨fun wr => ?_, fun wr nr hJ => ?_⟩
              · go_simp
                first | exact ⟨rfl, rfl⟩ | rfl
              · exact HPR.out _
            simp only [Act.put, List.setIfInBounds_toArray, List.set_cons_succ, List.set_cons_zero]
            repeat
              refine relAt_det rfl rfl ?_
              apply Exists.intro
              refine ⟨fun wr nr hJ => ?_, ?_⟩
              · have hC := HC3.out.ext hJ (by simp) (by simp); obtain ⟨c0, c1, c2, c3, c4, c5, c6⟩ := hC.at; have cl := hC.lt.1; have cr := hC.lt.2; have qx := HX3.out.ext hJ (by simp); have qxc := qx.cell; have qxl := qx.lt; clear qx hC
                clear hJ
                (go_simp; try go_bits)
                first | rfl | exact ⟨rfl, rfl⟩
              simp only [Act.put, List.setIfInBounds_toArray, List.set_cons_succ, List.set_cons_zero]
            refine relAt_nil (fun w4 hJ hF => ?_)
            have HC4 := hd (HC3.out.ext hJ (by simp) (by simp))
            have HX4 := hd (HX3.out.ext hJ (by simp))
            have HE4 := hd (HE3.out.trans hJ.nil)
            obtain ⟨c0, c1, c2, c3, c4, c5, c6⟩ := HC4.out.at
            have cl := HC4.out.lt.1
            have cr := HC4.out.lt.2
            have cf := HC4.out.blk.frozen 5
            have qxc := HX4.out.cell
            have qxl := HX4.out.lt
            clear hJ hF
            go_wp2_with fail
            have HC5 := hd (HC4.out.cyc (M + 2))
            have HX5 := hd (HX4.out.far (p := ⟨c, 5, none⟩) (Ne.symm qne) (.int .i64 (M + 2)))
            have HE5 := hd (HE4.out.setCell (p := ⟨c, 5, none⟩) (.inl (by simp)) (.int .i64 (M + 2)))
            clear c0 c1 c2 c3 c4 c5 c6 cl cr cf qxc qxl
            generalize w4.setCell ⟨c, 5, none⟩ (.int .i64 (M + 2)) = w5 at *
            obtain ⟨C, hC⟩ : ∃ C, C = M + 2 := ⟨_, rfl⟩
            rw [← hC] at HC5 HSE
            have hC0 : 0 ≤ C := by omega
            have hC1 : C ≤ 1000000000002 := by omega
            clear hC
            have hw1 : IntKind.i64.wrap (C + 8) = C + 8 := IntWalk.i64_in _ (by omega)
            have hw2 : IntKind.i64.wrap (C + 8 + xm) = C + 8 + xm := IntWalk.i64_in _ (by omega)
            refine wp_region_rel 14 (JE _) (Ext []) (kinds []) (by kernel_rfl) (by kernel_rfl) JE.less ?_ JE.start ?_
            · repeat (first | exact Stays.nil | refine Stays.cons sFix.stays ?_)
            simp only [List.take_succ_cons, List.take_zero, List.drop_succ_cons, List.drop_zero]
            repeat
              refine relAt_det rfl rfl ?_
              apply Exists.intro
              refine ⟨fun wr nr hJ => ?_, ?_⟩
              · have hC := HC5.out.ext hJ (by simp) (by simp); obtain ⟨c0, c1, c2, c3, c4, c5, c6⟩ := hC.at; have cl := hC.lt.1; have cr := hC.lt.2; have qx := HX5.out.ext hJ (by simp); have qxc := qx.cell; have qxl := qx.lt; clear qx hC
                clear hJ
                (go_simp; try go_bits)
                first | rfl | exact ⟨rfl, rfl⟩
              simp only [Act.put, List.setIfInBounds_toArray, List.set_cons_succ, List.set_cons_zero]
            refine relAt_nil (fun w6 hJ hF => ?_)
            clear hw1 hw2
            have HC6 := hd (HC5.out.ext hJ (by simp) (by simp))
            have HX6 := hd (HX5.out.ext hJ (by simp))
            have HE6 := hd (HE5.out.trans hJ.nil)
            obtain ⟨c0, c1, c2, c3, c4, c5, c6⟩ := HC6.out.at
            have cl := HC6.out.lt.1
            have cr := HC6.out.lt.2
            have cf := HC6.out.blk.frozen 5
            have qxc := HX6.out.cell
            have qxl := HX6.out.lt
            clear hJ hF
            have rdy := HC6.out.ready hdQ
            have crf := HC6.out.row.frozen d
            go_wp2_with fail
            go_roundw
            case rel => exact ⟨g, q + 1, ⟨C, putI t.rd d (C + 8 + xm)⟩, by go_num, by omega, by omega, hd (by rw [← HSE.out]; exact HST.out), hd (HC6.out.rd d _), hd (HE6.out.setCell (.inl (by simp)) _)⟩
            case measure => simp [intOf]; omega
          have hn18 : (xo == 18) = false := by simpa using h18
          go_wp2_with fail
          generalize wr.alloc (.cells #[.int .i64 xo, .int .i64 xk, .int .i64 xd, .int .i64 xa, .int .i64 xb, .int .i64 xc, .int .i64 xp, .int .i64 xn, .int .i64 xm] 64) = w1 at *
          generalize hxb : wr.heap.size = xbk at *
          generalize hpr : priceS m.lanes ⟨xo, xk, xd, xa, xb, xc, xp, xn, xm⟩ = pr at *
          have HPE := hd hpr
          clear h0 h1 h2 h3 h4 h5 h6 h7 h8 hpr
          refine wp_region_rel 10 (JE _) (Ext []) (kinds [(9, sFix (.int .i64 pr))]) (by kernel_rfl) (by kernel_rfl) JE.less ?_ JE.start ?_
          · repeat (first | exact Stays.nil | refine Stays.cons sFix.stays ?_)
          simp only [List.take_succ_cons, List.take_zero, List.drop_succ_cons, List.drop_zero]
          repeat
            refine relAt_det rfl rfl ?_
            apply Exists.intro
            refine ⟨fun wr nr hJ => ?_, ?_⟩
            · have hC := HC1.out.ext hJ (by simp) (by simp); obtain ⟨c0, c1, c2, c3, c4, c5, c6⟩ := hC.at; have cl := hC.lt.1; have cr := hC.lt.2; have qx := HX1.out.ext hJ (by simp); have qxc := qx.cell; have qxl := qx.lt; clear qx hC
              clear hJ
              (go_simp; try go_bits)
              first | rfl | exact ⟨rfl, rfl⟩
            simp only [Act.put, List.setIfInBounds_toArray, List.set_cons_succ, List.set_cons_zero]
          refine rel_fix rfl rfl ?_ ?_
          · apply Exists.intro
            apply Exists.intro
            refine ⟨fun wr => ?_, fun wr nr hJ => ?_⟩
            · go_simp
              first | exact ⟨rfl, rfl⟩ | rfl
            · exact HPR.out _
          simp only [Act.put, List.setIfInBounds_toArray, List.set_cons_succ, List.set_cons_zero]
          repeat
            refine relAt_det rfl rfl ?_
            apply Exists.intro
            refine ⟨fun wr nr hJ => ?_, ?_⟩
            · have hC := HC1.out.ext hJ (by simp) (by simp); obtain ⟨c0, c1, c2, c3, c4, c5, c6⟩ := hC.at; have cl := hC.lt.1; have cr := hC.lt.2; have qx := HX1.out.ext hJ (by simp); have qxc := qx.cell; have qxl := qx.lt; clear qx hC
              clear hJ
              (go_simp; try go_bits)
              first | rfl | exact ⟨rfl, rfl⟩
            simp only [Act.put, List.setIfInBounds_toArray, List.set_cons_succ, List.set_cons_zero]
          refine relAt_nil (fun w2 hJ hF => ?_)
          have HC2 := hd (HC1.out.ext hJ (by simp) (by simp))
          have HX2 := hd (HX1.out.ext hJ (by simp))
          have HE2 := hd (HE1.out.trans hJ.nil)
          obtain ⟨c0, c1, c2, c3, c4, c5, c6⟩ := HC2.out.at
          have cl := HC2.out.lt.1
          have cr := HC2.out.lt.2
          have cf := HC2.out.blk.frozen 5
          have qxc := HX2.out.cell
          have qxl := HX2.out.lt
          have qne : c ≠ xbk := by omega
          clear hJ hF
          by_cases h19 : xo = 19
          · have hd0 := HVX.out.d.1
            have hq1 := HVX.out.q (.inr h19)
            obtain ⟨d, rfl⟩ : ∃ d : Nat, xd = d := ⟨xd.toNat, by simp only at hd0; omega⟩
            have hdQ : d < Q := by have := HQ.out; simp only at hq1; omega
            have hrd0 := (HRB.out d).1
            have hrd1 := (HRB.out d).2
            clear hd0 hq1
            have HST := hd (HT.out.plain HS.out HX.out (by simp only; omega) hop4)
            have HSE : Hd (ckStep m.lanes ⟨xo, xk, d, xa, xb, xc, xp, xn, xm⟩ t = ⟨max (t.cyc + pr) (t.rd d), t.rd⟩) := hd (by simp only [ckStep, if_neg h18, if_pos h19, HPE.out])
            subst h19
            clear hop4 h18 hn4 hn18
            obtain ⟨M, hM⟩ : ∃ M, M = max (t.cyc + pr) (t.rd d) := ⟨_, rfl⟩
            rw [← hM] at HSE
            have hmx := hM.symm
            clear hM
            go_wp2_with fail
            have HC3 := hd (HC2.out.cyc (t.cyc + pr))
            have HX3 := hd (HX2.out.far (p := ⟨c, 5, none⟩) (Ne.symm qne) (.int .i64 (t.cyc + pr)))
            have HE3 := hd (HE2.out.setCell (p := ⟨c, 5, none⟩) (.inl (by simp)) (.int .i64 (t.cyc + pr)))
            clear c0 c1 c2 c3 c4 c5 c6 cl cr cf qxc qxl
            generalize w2.setCell ⟨c, 5, none⟩ (.int .i64 (t.cyc + pr)) = w3 at *
            generalize t.cyc + pr = C at *
            refine wp_region_rel 14 (JE _) (Ext []) (kinds []) (by kernel_rfl) (by kernel_rfl) JE.less ?_ JE.start ?_
            · repeat (first | exact Stays.nil | refine Stays.cons sFix.stays ?_)
            simp only [List.take_succ_cons, List.take_zero, List.drop_succ_cons, List.drop_zero]
            repeat
              refine relAt_det rfl rfl ?_
              apply Exists.intro
              refine ⟨fun wr nr hJ => ?_, ?_⟩
              · have hC := HC3.out.ext hJ (by simp) (by simp); obtain ⟨c0, c1, c2, c3, c4, c5, c6⟩ := hC.at; have cl := hC.lt.1; have cr := hC.lt.2; have rdy := hC.ready hdQ; have qx := HX3.out.ext hJ (by simp); have qxc := qx.cell; have qxl := qx.lt; clear qx hC
                clear hJ
                (go_simp; try go_bits)
                first | rfl | exact ⟨rfl, rfl⟩
              simp only [Act.put, List.setIfInBounds_toArray, List.set_cons_succ, List.set_cons_zero]
            refine relAt_nil (fun w4 hJ hF => ?_)
            have HC4 := hd (HC3.out.ext hJ (by simp) (by simp))
            have HX4 := hd (HX3.out.ext hJ (by simp))
            have HE4 := hd (HE3.out.trans hJ.nil)
            obtain ⟨c0, c1, c2, c3, c4, c5, c6⟩ := HC4.out.at
            have cl := HC4.out.lt.1
            have cr := HC4.out.lt.2
            have cf := HC4.out.blk.frozen 5
            have qxc := HX4.out.cell
            have qxl := HX4.out.lt
            clear hJ hF
            go_wp2_with fail
            go_roundw
            case rel => exact ⟨g, q + 1, ⟨M, t.rd⟩, by go_num, by omega, by omega, hd (by rw [← HSE.out]; exact HST.out), hd (HC4.out.cyc _), hd (HE4.out.setCell (.inl (by simp)) _)⟩
            case measure => simp [intOf]; omega
          have hn19 : (xo == 19) = false := by simpa using h19
          by_cases h3 : xo = 3
          · have hlo := HVX.out.lo h3
            have hxm0 : 0 ≤ xm := hlo.1
            have hxm1 : xm ≤ 1000000 := hlo.2
            have HSE : Hd (ckStep m.lanes ⟨xo, xk, xd, xa, xb, xc, xp, xn, xm⟩ t = ⟨t.cyc + pr, t.rd⟩) := hd (by simp only [ckStep, if_neg h18, if_neg h19, HPE.out])
            have HLP := hd (HT.out.loop HM.out HS.out HX.out h3)
            have HTU := hd (HT.out.turn HM.out HS.out HX.out h3)
            rw [HSE.out] at HLP HTU
            have HEN := hd (ends_cnt HC.out HX.out h3 (f := g) (by have := HT.out.fuel; omega))
            have hin : (cnt xs g (q + 1)).2 < xs.length := by
              obtain ⟨y, hy, _⟩ := ends_in HC.out HX.out h3 (f := g) (by have := HT.out.fuel; omega)
              exact (List.getElem?_eq_some_iff.1 hy).1
            have hge := cnt_ge xs g (q + 1)
            obtain ⟨E, hEe⟩ : ∃ E, E = (cnt xs g (q + 1)).2 := ⟨_, rfl⟩
            rw [← hEe] at HLP HEN hin hge
            subst h3
            clear hop4 h18 h19 hn4 hn18 hn19 hlo hEe
            go_wp2_with fail
            have HC3 := hd (HC2.out.cyc (t.cyc + pr))
            have HE3 := hd (HE2.out.setCell (p := ⟨c, 5, none⟩) (.inl (by simp)) (.int .i64 (t.cyc + pr)))
            clear c0 c1 c2 c3 c4 c5 c6 cl cr cf qxc qxl
            generalize w2.setCell ⟨c, 5, none⟩ (.int .i64 (t.cyc + pr)) = w3 at *
            obtain ⟨wo, rfl⟩ : ∃ wo : World, wo = wr := ⟨_, rfl⟩
            go_loopw [99] (fun j wi => ∃ k : Nat, j = .int .i64 k ∧ (k : Int) ≤ xm ∧ Hd (CkAt wi c rb Q m (iterS (fun s => runS (ckStep m.lanes) ckTick xs g (q + 1) (ckTick s)) k ⟨t.cyc + pr, t.rd⟩)) ∧ Hd (Ext [c, rb] w wi)) (fun j _ => (xm - intOf j).toNat)
            case atStart => exact ⟨0, rfl, by omega, HC3, HE3⟩
            case round =>
              obtain ⟨k, rfl, hk, HCk, HEk⟩ := hrel
              by_cases hlt2 : (k : Int) < xm
              · have HTk := hd (HTU.out k hlt2)
                have hsk := HTk.out.small HM.out
                generalize hit : iterS (fun s => runS (ckStep m.lanes) ckTick xs g (q + 1) (ckTick s)) k ⟨t.cyc + pr, t.rd⟩ = sk at *
                have hs0 : -1 ≤ sk.cyc := by have := hsk.1; simp only [ckTick] at this; omega
                have hs1 : sk.cyc ≤ 1000000000000 := by have := hsk.2.1; simp only [ckTick] at this; omega
                have HRk := hd (HR.out.exto HEk.out (HA.out.imp id fun h a ha => by have := h a ha; simp; omega))
                have HEBk := hd (HEB.out.ext HEk.out (by simp; omega))
                obtain ⟨c0, c1, c2, c3, c4, c5, c6⟩ := HCk.out.at
                have cl := HCk.out.lt.1
                have cr := HCk.out.lt.2
                have cf := HCk.out.blk.frozen 5
                have HCt : Hd (CkAt (wr.setCell ⟨c, 5, none⟩ (.int .i64 (sk.cyc + 1))) c rb Q m (ckTick sk)) := hd (HCk.out.cyc _)
                have HEt := hd (HEk.out.setCell (p := ⟨c, 5, none⟩) (.inl (by simp)) (.int .i64 (sk.cyc + 1)))
                have HRt := hd (HR.out.exto HEt.out (HA.out.imp id fun h a ha => by have := h a ha; simp; omega))
                have HEBt := hd (HEB.out.ext HEt.out (by simp; omega))
                clear hsk hit
                go_wp2_with fail
                refine (HI.out g (q + 1) _ _ _ (by omega) (by omega) (by omega) HTk.out HRt.out HEBt.out HCt.out).mono ?_
                rintro e w5 ⟨v, rfl, hE5, hC5⟩
                have HE5 := hd (HEt.out.trans hE5)
                have HC5 := hd hC5
                clear hE5 hC5 c0 c1 c2 c3 c4 c5 c6 cl cr cf
                go_wp2_with fail
                go_roundw
                case rel => exact ⟨k + 1, by go_num, by omega, HC5, HE5⟩
                case measure => simp [intOf]; omega
              · have hkx : xm.toNat = k := by omega
                rw [hkx] at HLP
                have hec : wr.cell? ⟨eb, q, none⟩ = some (.int .i64 E) := by
                  rw [(HEB.out.ext HEk.out (by simp; omega)).cell q]
                  simp [Nums, endsL, hlt, HEN.out]
                have hel := (HEB.out.ext HEk.out (by simp; omega)).lt
                go_wp2_with fail
                go_roundw
                case rel => exact ⟨g, E + 1, _, by go_num, by omega, by omega, HLP, HCk, HEk⟩
                case measure => simp [intOf]; omega
          have hn3 : (xo == 3) = false := by simpa using h3
          have HST := hd (HT.out.plain HS.out HX.out h3 hop4)
          have HSE : Hd (ckStep m.lanes ⟨xo, xk, xd, xa, xb, xc, xp, xn, xm⟩ t = ⟨t.cyc + pr, t.rd⟩) := hd (by simp only [ckStep, if_neg h18, if_neg h19, HPE.out])
          clear h18 h19 h3 hop4
          go_wp2_with fail
          go_roundw
          case rel => exact ⟨g, q + 1, ⟨t.cyc + pr, t.rd⟩, by go_num, by omega, by omega, hd (by rw [← HSE.out]; exact HST.out), hd (HC2.out.cyc _), hd (HE2.out.setCell (.inl (by simp)) _)⟩
          case measure => simp [intOf]; omega
      · have HZ := hd (HT.out.past (by omega))
        go_wp2_with fail
        go_ret
        exact ⟨_, rfl, HE.out, by rw [← HZ.out]; exact HCK.out⟩
end Go.Proofs.Ytedabpldigcffaa
