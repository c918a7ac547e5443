/- The checker's ranged. -/
import Derived.Test.YtedabpldigcffaaCheckC
namespace Go.Proofs.Ytedabpldigcffaa
open Go.RowKit
set_option linter.unusedSimpArgs false
set_option linter.unusedVariables false

/-- The first k pairs are in their ranges, and e. -/
def rangedK (m : Mc) (e : Bool) (fs xs : List Int) : Nat → Bool
  | 0 => e
  | k + 1 => rangedK m e fs xs k && fieldOk m (fs.getD k 0) (xs.getD k 0)
theorem rangedK_succ (m : Mc) (e : Bool) (fs xs : List Int) (k : Nat) : rangedK m e fs xs (k + 1) = (rangedK m e fs xs k && fieldOk m (fs.getD k 0) (xs.getD k 0)) := rfl
/-- What an operation asks of its fields besides. -/
def rangedOp (x : Ins) : Bool := if x.k = 12 then decide (x.n ≤ x.m) else if x.k = 13 then inR x.n 1 31 else if x.k = 14 then decide (1 ≤ x.n) else true
/-- What an instruction's kind asks of its fields besides. -/
def rangedX (m : Mc) (x : Ins) : Bool :=
  if x.op = 2 ∨ x.op = 11 then decide (0 < argsN x.k) && rangedOp x
  else if x.op = 3 then inR x.c (-1000) 1000 && inR x.m 0 1000000
  else if x.op = 13 then inR x.n 0 (m.lanes - 1)
  else if x.op = 14 then inR x.m 0 m.bank
  else if x.op = 18 then inR x.k 1 2 && inR x.m 1 m.bank
  else true
def rangedS (m : Mc) (f : Frm) (x : Ins) : Bool := rangedK m (inR x.p 0 16) f.fs x.xs 6 && rangedX m x
/-- The kinds of a form's fields are kinds. -/
def Frm.wf (f : Frm) : Prop := ∀ k, k < 6 → 0 ≤ f.fs.getD k 0 ∧ f.fs.getD k 0 ≤ 5

/-- The checker, the form and the instruction lie in three new blocks. -/
def RaSt (w : World) (mc fc xc : Array Value) (wx : World) : Prop := Ext [] w wx ∧ Blk wx w.heap.size 85 mc ∧ Blk wx (w.heap.size + 1) 64 xc ∧ Blk wx (w.heap.size + 2) 87 fc

set_option maxHeartbeats 2000000 in
set_option maxRecDepth 100000 in
theorem ranged_any (s : ByteArray) (m : Mc) (f : Frm) (x : Ins) (w : World) (hf : f.wf) (hb : 0 ≤ m.banks ∧ m.banks ≤ 1000) (hq : 0 ≤ m.queues ∧ m.queues ≤ 1000) (hl : 0 ≤ m.lanes ∧ m.lanes ≤ 1000) :
    Calls Try.prog 56 #[.agg m.cells.toArray, .agg x.cells.toArray, .agg (Frm.cells s f).toArray] w fun e w' => e = .returned (.bool (rangedS m f x)) ∧ Ext [] w w' := by
  have HP := hd (pairCells_get f x)
  have HU : Hd (rangedS m f x = (rangedK m (inR x.p 0 16) f.fs x.xs 6 && rangedX m x)) := hd rfl
  have HF : Hd (∀ k, k < 6 → 0 ≤ f.fs.getD k 0 ∧ f.fs.getD k 0 ≤ 5) := hd hf
  clear hf
  have HR : Hd (rangedX m x = _) := hd (by unfold rangedX rangedOp; rfl)
  have HB := hd hb
  have HQ := hd hq
  have HL := hd hl
  clear hb hq hl
  generalize hfs : f.fs = fs at *
  generalize hxs : x.xs = xs at *
  generalize hpc : pairCells f x = pc at *
  generalize hus : rangedS m f x = us at *
  generalize hrx : rangedX m x = rx at *
  have Hpc := hd hpc
  clear hfs hxs hpc hus hrx
  obtain ⟨fk, fd, fa, fb, fc, fn, fm, fp⟩ := f
  obtain ⟨xo, xk, xd, xa, xb, xc, xp, xn, xm⟩ := x
  have HM : Hd (m = m) := hd rfl
  have hmc : m.cells = [.int .i64 m.main, .int .i64 m.banks, .int .i64 m.bank, .int .i64 m.lanes, .int .i64 m.queues] := rfl
  rw [hmc]
  clear hmc
  simp only [Frm.cells, Ins.cells, pairCells] at *
  go_enter Try.func56, Try.ntmps56
  go_upto_region 1 with fail
  go_cut [7] (fun sl wx => sl = .bool (inR xp 0 16) ∧ RaSt w m.cells.toArray (Frm.cells s ⟨fk, fd, fa, fb, fc, fn, fm, fp⟩).toArray (Ins.cells ⟨xo, xk, xd, xa, xb, xc, xp, xn, xm⟩).toArray wx)
  case first =>
    go_wp2_with fail
    refine (within_any _ _ _ _).mono ?_
    rintro e w' ⟨rfl, rfl⟩
    go_wp2_with fail
    go_meet
    exact ⟨rfl, (((Ext.refl _ _).alloc _).alloc _).alloc _, ((Blk.new _ _ _).alloc _).alloc _, (Blk.new' _ _ _ _ (by simp)).alloc _, Blk.new' _ _ _ _ (by simp)⟩
  case rest =>
    obtain ⟨rfl, hE0, hB0, hB1, hB2⟩ := hcut
    have hf1 := hB1.cell
    have hf2 := hB2.cell
    simp only [Frm.cells, Ins.cells] at hf1 hf2
    have HB1 := hd hB1
    have HB0 := hd hB0
    have hl0 := hB0.lt
    have hl1 := hB1.lt
    have hl2 := hB2.lt
    clear hB0 hB1 hB2
    generalize he0 : inR xp 0 16 = e0 at *
    clear he0
    go_wp2_with fail
    have hpb : ∀ (wr : World), Ext [] (wc.alloc (.cells (pairCells ⟨fk, fd, fa, fb, fc, fn, fm, fp⟩ ⟨xo, xk, xd, xa, xb, xc, xp, xn, xm⟩) 124)) wr → ∀ i, wr.cell? ⟨wc.heap.size, i, none⟩ = pc[i]? := fun wr h i => by
      rw [← Hpc.out]; exact ((Blk.new wc 124 _).ext h (by simp)).cell i
    have HPB := hd hpb
    clear hpb hf1 hf2
    go_loopw [7, 45] (fun e i wr => ∃ k : Nat, i = .int .i64 k ∧ k ≤ 6 ∧ e = .bool (rangedK m e0 fs xs k) ∧ Ext [] (wc.alloc (.cells (pairCells ⟨fk, fd, fa, fb, fc, fn, fm, fp⟩ ⟨xo, xk, xd, xa, xb, xc, xp, xn, xm⟩) 124)) wr) (fun _ i _ => (6 - intOf i).toNat)
    case atStart => exact ⟨0, rfl, by omega, rfl, Ext.refl _ _⟩
    case round =>
      obtain ⟨k, rfl, hk, rfl, hE⟩ := hrel
      by_cases hlt : k < 6
      · have hc := HPB.out _ hE
        have h1 := (HP.out k hlt).1
        have h2 := (HP.out k hlt).2
        rw [← hc] at h1 h2
        have HK := hd (rangedK_succ m e0 fs xs k)
        have HY := hd (HF.out k hlt)
        generalize rangedK m e0 fs xs k = e1 at *
        generalize fs.getD k 0 = y0 at *
        generalize xs.getD k 0 = y1 at *
        clear hc
        have hcm := ((HB0.out.alloc _).ext hE (by simp)).cell
        have hlm := ((HB0.out.alloc _).ext hE (by simp)).lt
        simp only [Mc.cells] at hcm
        cases e1
        · go_wp2_with fail
          go_round
          case rel => exact ⟨k + 1, by go_num, by omega, by rw [HK.out]; rfl, hE.alloc _⟩
          case measure => simp [intOf]; omega
        · go_wp2_with fail
          refine (field_any m _ _ _ HY.out HB.out HQ.out).mono ?_
          rintro e w' ⟨rfl, hE2⟩
          clear hcm h1 h2
          go_wp2_with fail
          go_round
          case rel => exact ⟨k + 1, by go_num, by omega, by rw [HK.out]; rfl, (hE.alloc _).trans hE2⟩
          case measure => simp [intOf]; omega
      · have h6 : k = 6 := by omega
        subst h6
        clear hk hlt
        have HE := hd (hE0.trans (((Ext.refl _ _).alloc _).trans hE))
        have hcm := ((HB0.out.alloc _).ext hE (by simp)).cell
        have hcx := ((HB1.out.alloc _).ext hE (by simp)).cell
        have hlm := ((HB0.out.alloc _).ext hE (by simp)).lt
        have hlx := ((HB1.out.alloc _).ext hE (by simp)).lt
        simp only [Mc.cells, Ins.cells] at hcm hcx
        clear hE hE0 HPB Hpc HP HF
        generalize rangedK m e0 fs xs 6 = e1 at *
        obtain ⟨m0, m1, m2, m3, m4⟩ := m
        obtain ⟨hL0, hL1⟩ := HL.out
        simp only at hL0 hL1 hcm
        simp only at HR
        have hop : (xo = 2 ∨ xo = 11) ∨ xo = 3 ∨ xo = 13 ∨ xo = 14 ∨ xo = 18 ∨ ((xo == 2) = false ∧ (xo == 11) = false ∧ (xo == 3) = false ∧ (xo == 13) = false ∧ (xo == 14) = false ∧ (xo == 18) = false) := by
          simp; omega
        clear HL HB HQ HM
        rcases hop with hop | rfl | rfl | rfl | rfl | ⟨h1, h2, h3, h4, h5, h6⟩
        · have hRR : Hd (rx = (decide (0 < argsN xk) && if xk = 12 then decide (xn ≤ xm) else if xk = 13 then inR xn 1 31 else if xk = 14 then decide (1 ≤ xn) else true)) := hd (by rw [HR.out, if_pos hop])
          clear HR
          have hkk : xk = 12 ∨ xk = 13 ∨ xk = 14 ∨ ((xk == 12) = false ∧ (xk == 13) = false ∧ (xk == 14) = false) := by simp; omega
          rcases hkk with rfl | rfl | rfl | ⟨h1, h2, h3⟩
          · have hRR' : Hd (rx = (decide (0 < (1 : Int)) && decide (xn ≤ xm))) := hd hRR.out
            clear hRR
            rcases hop with rfl | rfl <;> (
              cases e1
              · go_wp2_with fail
                go_ret
                exact ⟨ret_bool (by rw [HU.out]; rfl), HE.out⟩
              · by_cases hn : xn ≤ xm
                · go_wp2_with (go_at_call 78; refine (argsOf_any _ _).mono ?_; rintro e w' ⟨rfl, rfl⟩)
                  go_ret
                  exact ⟨ret_bool (by rw [HU.out, hRR'.out]; simp [hn]), HE.out⟩
                · go_wp2_with (go_at_call 78; refine (argsOf_any _ _).mono ?_; rintro e w' ⟨rfl, rfl⟩)
                  go_ret
                  exact ⟨ret_bool (by rw [HU.out, hRR'.out]; simp [hn]), HE.out⟩)
          · have hRR' : Hd (rx = (decide (0 < (1 : Int)) && inR xn 1 31)) := hd hRR.out
            clear hRR
            rcases hop with rfl | rfl <;> (
              cases e1
              · go_wp2_with fail
                go_ret
                exact ⟨ret_bool (by rw [HU.out]; rfl), HE.out⟩
              · go_wp2_with (first | (go_at_call 78; refine (argsOf_any _ _).mono ?_; rintro e w' ⟨rfl, rfl⟩) | (go_at_call 39; refine (within_any _ _ _ _).mono ?_; rintro e w' ⟨rfl, rfl⟩))
                go_ret
                exact ⟨ret_bool (by rw [HU.out, hRR'.out]; simp), HE.out⟩)
          · have hRR' : Hd (rx = (decide (0 < (1 : Int)) && decide (1 ≤ xn))) := hd hRR.out
            clear hRR
            rcases hop with rfl | rfl <;> (
              cases e1
              · go_wp2_with fail
                go_ret
                exact ⟨ret_bool (by rw [HU.out]; rfl), HE.out⟩
              · by_cases hn : 1 ≤ xn
                · go_wp2_with (go_at_call 78; refine (argsOf_any _ _).mono ?_; rintro e w' ⟨rfl, rfl⟩)
                  go_ret
                  exact ⟨ret_bool (by rw [HU.out, hRR'.out]; simp [hn]), HE.out⟩
                · go_wp2_with (go_at_call 78; refine (argsOf_any _ _).mono ?_; rintro e w' ⟨rfl, rfl⟩)
                  go_ret
                  exact ⟨ret_bool (by rw [HU.out, hRR'.out]; simp [hn]), HE.out⟩)
          · have hRR' : Hd (rx = decide (0 < argsN xk)) := hd (by
              rw [hRR.out, if_neg (by simpa using h1), if_neg (by simpa using h2), if_neg (by simpa using h3), Bool.and_true])
            clear hRR
            generalize hax : argsN xk = ax at hRR'
            rcases hop with rfl | rfl <;> (
              cases e1
              · go_wp2_with fail
                go_ret
                exact ⟨ret_bool (by rw [HU.out]; rfl), HE.out⟩
              · by_cases hn : 0 < ax
                · go_wp2_with (go_at_call 78; refine (argsOf_any _ _).mono ?_; rintro e w' ⟨rfl, rfl⟩; rw [hax]; clear hax)
                  go_ret
                  exact ⟨ret_bool (by rw [HU.out, hRR'.out]; simp [hn]), HE.out⟩
                · go_wp2_with (go_at_call 78; refine (argsOf_any _ _).mono ?_; rintro e w' ⟨rfl, rfl⟩; rw [hax]; clear hax)
                  go_ret
                  exact ⟨ret_bool (by rw [HU.out, hRR'.out]; simp [hn]), HE.out⟩)
        · have hRR : Hd (rx = (inR xc (-1000) 1000 && inR xm 0 1000000)) := hd HR.out
          clear HR
          cases e1
          · go_wp2_with fail
            go_ret
            exact ⟨ret_bool (by rw [HU.out]; rfl), HE.out⟩
          · cases h1 : inR xc (-1000) 1000
            · go_wp2_with (go_at_call 39; refine (within_any _ _ _ _).mono ?_; rintro e w' ⟨rfl, rfl⟩)
              go_ret
              exact ⟨ret_bool (by rw [HU.out, hRR.out, h1]; rfl), HE.out⟩
            · go_wp2_with (go_at_call 39; refine (within_any _ _ _ _).mono ?_; rintro e w' ⟨rfl, rfl⟩)
              go_ret
              exact ⟨ret_bool (by rw [HU.out, hRR.out, h1]; rfl), HE.out⟩
        · have hRR : Hd (rx = inR xn 0 (m3 - 1)) := hd HR.out
          clear HR
          cases e1
          · go_wp2_with fail
            go_ret
            exact ⟨ret_bool (by rw [HU.out]; rfl), HE.out⟩
          · go_wp2_with (go_at_call 39; refine (within_any _ _ _ _).mono ?_; rintro e w' ⟨rfl, rfl⟩)
            go_ret
            exact ⟨ret_bool (by rw [HU.out, hRR.out]; rfl), HE.out⟩
        · have hRR : Hd (rx = inR xm 0 m2) := hd HR.out
          clear HR
          cases e1
          · go_wp2_with fail
            go_ret
            exact ⟨ret_bool (by rw [HU.out]; rfl), HE.out⟩
          · go_wp2_with (go_at_call 39; refine (within_any _ _ _ _).mono ?_; rintro e w' ⟨rfl, rfl⟩)
            go_ret
            exact ⟨ret_bool (by rw [HU.out, hRR.out]; rfl), HE.out⟩
        · have hRR : Hd (rx = (inR xk 1 2 && inR xm 1 m2)) := hd HR.out
          clear HR
          cases e1
          · go_wp2_with fail
            go_ret
            exact ⟨ret_bool (by rw [HU.out]; rfl), HE.out⟩
          · cases h1 : inR xk 1 2
            · go_wp2_with (go_at_call 39; refine (within_any _ _ _ _).mono ?_; rintro e w' ⟨rfl, rfl⟩)
              go_ret
              exact ⟨ret_bool (by rw [HU.out, hRR.out, h1]; rfl), HE.out⟩
            · go_wp2_with (go_at_call 39; refine (within_any _ _ _ _).mono ?_; rintro e w' ⟨rfl, rfl⟩)
              go_ret
              exact ⟨ret_bool (by rw [HU.out, hRR.out, h1]; rfl), HE.out⟩
        · have hRR : Hd (rx = true) := hd (by
            simp only [beq_eq_false_iff_ne] at h1 h2 h3 h4 h5 h6
            rw [HR.out]; simp [h1, h2, h3, h4, h5, h6])
          clear HR
          go_wp2_with fail
          go_ret
          exact ⟨ret_bool (by rw [HU.out, hRR.out, Bool.and_true]), HE.out⟩
end Go.Proofs.Ytedabpldigcffaa
