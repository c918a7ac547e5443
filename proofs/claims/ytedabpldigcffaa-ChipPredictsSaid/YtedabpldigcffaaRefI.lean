/- The specification's fault of code and of a machine with code. -/
import Derived.Test.YtedabpldigcffaaRefG
import Derived.Test.YtedabpldigcffaaRefH
namespace Go.Proofs.Ytedabpldigcffaa
open Go.RowKit
set_option linter.unusedSimpArgs false
set_option linter.unusedVariables false

set_option maxHeartbeats 4000000 in
set_option maxRecDepth 100000 in
theorem codeFault_any (m : Mc) (A : Option Addr) (cap : Nat) (xs : List Ins) (w : World) (hok : m.okB = true) (h : RdC w A xs) (hl : xs.length ≤ 100000) :
    Calls Try.prog 58 #[.agg m.cells.toArray, .slice A xs.length cap] w fun e w' => e = .returned (.int .i64 (checkS m xs)) ∧ Ext [] w w' := by
  have HR := hd h
  have HS2 : Hd (checkS m xs = if codeE m 0 xs = 0 then (if 40000000 < (turnsS xs).sum then 2 else 0) else codeE m 0 xs) := hd (by unfold checkS; rw [if_neg (by simp [hok]), if_neg (by omega)])
  have HC : Hd (ChkSt m xs 0 0) := hd ⟨by simp, by omega⟩
  have HF : Hd (∀ D x, insE m D x = if instrF m x = 0 then (if x.op = 4 ∧ D = 0 then 7 else if x.op = 3 ∧ 16 ≤ D then 2 else 0) else instrF m x) := hd fun D x => insE_F hok
  have HSM : Hd (Small m.banks ∧ Small m.queues ∧ Small m.lanes) := hd (by
    unfold Mc.okB at hok
    simp only [Bool.and_eq_true, inR_iff] at hok
    unfold Small
    omega)
  clear h hok
  have hmc : m.cells = [.int .i64 m.main, .int .i64 m.banks, .int .i64 m.bank, .int .i64 m.lanes, .int .i64 m.queues] := rfl
  rw [hmc]
  generalize checkS m xs = r at *
  go_enter Try.func58, Try.ntmps58
  go_wp2_with fail
  have HB := hd (Blk.new w 40 m.cells.toArray)
  have hbm := HB.out.lt
  go_loopw [5, 16] (fun d i wr => ∃ k D : Nat, i = .int .i64 k ∧ d = .int .i64 D ∧ k ≤ xs.length ∧ D ≤ 16 ∧ Hd (ChkSt m xs D k) ∧ Ext [] (w.alloc (.cells #[.int .i64 m.main, .int .i64 m.banks, .int .i64 m.bank, .int .i64 m.lanes, .int .i64 m.queues] 40)) wr) (fun _ i _ => (xs.length - intOf i).toNat)
  case atStart => exact ⟨0, 0, rfl, rfl, by omega, by omega, HC, Ext.refl _ _⟩
  case round =>
    obtain ⟨k, D, rfl, rfl, hk, hD16, hK, hE⟩ := hrel
    have HE0 := hd (((Ext.refl [] w).alloc _).trans hE)
    by_cases hlt : k < xs.length
    · obtain ⟨x, hx⟩ : ∃ x, xs[k]? = some x := ⟨_, List.getElem?_eq_getElem hlt⟩
      have HX := hd hx
      obtain ⟨b, o, rfl, hb, hcx⟩ := (HR.out.ext HE0.out (by simp)).at hx
      have hxc : x.cells = [.int .i64 x.op, .int .i64 x.k, .int .i64 x.d, .int .i64 x.a, .int .i64 x.b, .int .i64 x.c, .int .i64 x.p, .int .i64 x.n, .int .i64 x.m] := rfl
      have h0 := hcx 0 _ rfl
      have h1 := hcx 1 _ rfl
      have h2 := hcx 2 _ rfl
      have h3 := hcx 3 _ rfl
      have h4 := hcx 4 _ rfl
      have h5 := hcx 5 _ rfl
      have h6 := hcx 6 _ rfl
      have h7 := hcx 7 _ rfl
      have h8 := hcx 8 _ rfl
      simp only [Nat.add_zero] at h0
      have hbc := (HB.out.ext hE (by simp)).cell
      have hbl := (HB.out.ext hE (by simp)).lt
      rw [hmc] at hbc
      have HEk := hd hE
      clear hcx hx hE hbm
      go_wp2_with fail
      refine (instrFault_any m x _ HSM.out.1 HSM.out.2.1 HSM.out.2.2).mono ?_
      rintro e W1 ⟨rfl, hW1⟩
      have HX1 := hd ((Blk.new wr 64 x.cells.toArray).ext hW1 (by simp))
      have hfx := HX1.out.cell
      have hlx := HX1.out.lt
      have HE1 := hd (HE0.out.trans (((Ext.refl _ _).alloc _).trans hW1))
      have HEm : Hd (Ext [] (w.alloc (.cells #[.int .i64 m.main, .int .i64 m.banks, .int .i64 m.bank, .int .i64 m.lanes, .int .i64 m.queues] 40)) W1) := hd (HEk.out.trans (((Ext.refl _ _).alloc _).trans hW1))
      rw [hxc] at hfx
      have HI := hd (HF.out D x)
      clear h0 h1 h2 h3 h4 h5 h6 h7 h8 hW1 hb hbc hbl
      by_cases hi : instrF m x = 0
      · rw [hi]
        have HI2 : Hd (insE m D x = if x.op = 4 ∧ D = 0 then 7 else if x.op = 3 ∧ 16 ≤ D then 2 else 0) := hd (by rw [HI.out, if_pos hi])
        clear HI hi
        have hop : x.op = 3 ∨ x.op = 4 ∨ ((x.op == 3) = false ∧ (x.op == 4) = false) := by simp; omega
        rcases hop with hop | hop | ⟨hn3, hn4⟩
        · by_cases hD : D = 16
          · have HI4 : Hd (insE m D x = 2) := hd (by rw [HI2.out, if_neg (by omega), if_pos ⟨hop, by omega⟩])
            rw [hop] at hfx
            clear HI2
            go_wp2_with fail
            go_ret
            exact ⟨ret_int (by rw [HS2.out, hK.out.stop HX.out (by rw [HI4.out]; decide), HI4.out]; rfl), HE1.out⟩
          · have HI4 : Hd (insE m D x = 0) := hd (by rw [HI2.out, if_neg (by omega), if_neg (by omega)])
            have HD : Hd (dStep D x = D + 1) := hd (by simp [dStep, hop])
            rw [hop] at hfx
            clear HI2
            go_wp2_with fail
            go_round
            case rel => exact ⟨k + 1, dStep D x, by go_num, by rw [HD.out]; go_num, by omega, by rw [HD.out]; omega, hd (hK.out.next HX.out HI4.out), HEm.out⟩
            case measure => simp [intOf]; omega
        · by_cases hD : D = 0
          · have HI4 : Hd (insE m D x = 7) := hd (by rw [HI2.out, if_pos ⟨hop, hD⟩])
            rw [hop] at hfx
            clear HI2
            go_wp2_with fail
            go_ret
            exact ⟨ret_int (by rw [HS2.out, hK.out.stop HX.out (by rw [HI4.out]; decide), HI4.out]; rfl), HE1.out⟩
          · have HI4 : Hd (insE m D x = 0) := hd (by rw [HI2.out, if_neg (by omega), if_neg (by omega)])
            have HD : Hd (dStep D x = D - 1) := hd (by simp [dStep, hop])
            rw [hop] at hfx
            clear HI2
            go_wp2_with fail
            go_round
            case rel => exact ⟨k + 1, dStep D x, by go_num, by rw [HD.out]; go_num, by omega, by rw [HD.out]; omega, hd (hK.out.next HX.out HI4.out), HEm.out⟩
            case measure => simp [intOf]; omega
        · have HI4 : Hd (insE m D x = 0) := hd (by
            simp only [beq_eq_false_iff_ne] at hn3 hn4
            rw [HI2.out, if_neg (by omega), if_neg (by omega)])
          have HD : Hd (dStep D x = D) := hd (by
            simp only [beq_eq_false_iff_ne] at hn3 hn4
            simp [dStep, hn3, hn4])
          clear HI2
          go_wp2_with fail
          go_round
          case rel => exact ⟨k + 1, dStep D x, by go_num, by rw [HD.out], by omega, by rw [HD.out]; omega, hd (hK.out.next HX.out HI4.out), HEm.out⟩
          case measure => simp [intOf]; omega
      · have HI2 : Hd (insE m D x = instrF m x) := hd (by rw [HI.out, if_neg hi])
        have hib : (instrF m x == 0) = false := by simpa using hi
        have HI3 : Hd (instrF m x ≠ 0) := hd hi
        clear HI hi
        generalize instrF m x = f at *
        go_wp2_with fail
        go_ret
        exact ⟨ret_int (by rw [HS2.out, hK.out.stop HX.out (by rw [HI2.out]; exact HI3.out), HI2.out, if_neg HI3.out]), HE1.out⟩
    · have HK := hd (hK.out.end (by omega))
      by_cases hD : 0 < D
      · have HK2 : Hd (codeE m 0 xs = 7) := hd (by rw [HK.out, if_pos hD])
        clear hE
        go_wp2_with fail
        go_ret
        exact ⟨ret_int (by rw [HS2.out, HK2.out]; rfl), HE0.out⟩
      · have HK2 : Hd (codeE m 0 xs = 0) := hd (by rw [HK.out, if_neg hD])
        have HT := hd (total_iff HK2.out)
        clear hE
        go_wp2_with fail
        refine (executed_any _ _ xs hl (codeE_loops HK2.out) xs.length xs.length 0 _ (Nat.le_refl _) hl (by omega) (by omega) (HR.out.ext HE0.out (by simp))).mono ?_
        rintro e W1 ⟨rfl, hW1⟩
        have HE1 := hd (HE0.out.trans hW1)
        clear hW1
        generalize sat (cnt xs xs.length 0).1 = n at *
        generalize (cnt xs xs.length 0).2 = e2 at *
        by_cases hn : 40000000 < n
        · have HV : Hd (r = 2) := hd (by rw [HS2.out, if_pos HK2.out, if_pos (HT.out.2 hn)])
          clear HS2 HT
          go_wp2_with fail
          go_ret
          exact ⟨ret_int HV.out.symm, HE1.out⟩
        · have HV : Hd (r = 0) := hd (by rw [HS2.out, if_pos HK2.out, if_neg (fun h => hn (HT.out.1 h))])
          clear HS2 HT
          go_wp2_with fail
          go_ret
          exact ⟨ret_int HV.out.symm, HE1.out⟩

theorem chipFault_any (m : Mc) (A : Option Addr) (cap : Nat) (xs : List Ins) (w : World) (h : RdC w A xs) (hl : xs.length ≤ 100000) :
    Calls Try.prog 23 #[.agg m.cells.toArray, .slice A xs.length cap] w fun e w' => e = .returned (.int .i64 (checkS m xs)) ∧ Ext [] w w' := by
  have HR := hd h
  have HS : Hd (m.okB = false → checkS m xs = 9) := hd fun hok => by unfold checkS; rw [if_pos hok]
  clear h
  have hmc : m.cells = [.int .i64 m.main, .int .i64 m.banks, .int .i64 m.bank, .int .i64 m.lanes, .int .i64 m.queues] := rfl
  rw [hmc]
  go_enter Try.func23, Try.ntmps23
  go_wp2_with fail
  refine (machineFault_any m _).mono ?_
  rintro e w1 ⟨rfl, hE1⟩
  have hB := (Blk.new w 40 m.cells.toArray).ext hE1 (by simp)
  have hbc := hB.cell
  have hbl := hB.lt
  rw [hmc] at hbc
  have HE1 := hd (((Ext.refl [] w).alloc _).trans hE1)
  clear hE1 hB
  cases hok : m.okB
  · simp only [okE]
    go_wp2_with fail
    go_ret
    exact ⟨ret_int (HS.out hok).symm, HE1.out⟩
  · simp only [okE]
    go_wp2_with fail
    refine (codeFault_any m _ _ xs _ hok (HR.out.ext HE1.out (by simp)) hl).mono ?_
    rintro e w2 ⟨rfl, hE2⟩
    have HE2 := hd (HE1.out.trans hE2)
    clear hE2
    go_wp2_with fail
    go_ret
    exact ⟨rfl, HE2.out⟩
end Go.Proofs.Ytedabpldigcffaa
