/- Predict: the walk. -/
import Derived.Test.YtedabpldigcffaaPreF
import Derived.Test.YtedabpldigcffaaChipC
namespace Go.Proofs.Ytedabpldigcffaa
open Go.RowKit
set_option linter.unusedSimpArgs false
set_option linter.unusedVariables false
attribute [local irreducible] relAt

theorem nums_at {xs : List Int} {i : Nat} (h : i < xs.length) : (Nums xs)[i]? = some (.int .i64 xs[i]) := by simp [Nums, h]
set_option maxHeartbeats 2000000 in
set_option maxRecDepth 100000 in
theorem maxInt_any (b n : Nat) (x : Int) (ys : List Int) (w : World) (h : Blk w b 3 (Nums (x :: ys))) (hn : ys.length + 1 = n) (hl : n ≤ 1000) :
    Calls Try.prog 14 #[.slice (some ⟨b, 0, none⟩) n n] w fun e w' => e = .returned (.int .i64 (topL x ys)) ∧ Ext [] w w' := by
  have HB := hd h
  have HN := hd hn
  have hn0 : 1 ≤ n := by omega
  have q0 : w.cell? ⟨b, 0, none⟩ = some (.int .i64 x) := by rw [h.cell 0]; simp [Nums]
  have ql := h.lt
  clear h hn
  go_enter Try.func14, Try.ntmps14
  go_wp2_with fail
  go_loopw [3, 4] (fun v i wr => ∃ (r : Int) (k : Nat), v = .int .i64 r ∧ i = .int .i64 (k + 1 : Nat) ∧ k + 1 ≤ n ∧ Hd (r = topL x (ys.take k)) ∧ Hd (Ext [] w wr)) (fun _ i _ => (n - intOf i).toNat)
  case atStart => exact ⟨x, 0, rfl, rfl, hn0, hd (by simp [topL]), hd (Ext.refl _ _)⟩
  case round =>
    obtain ⟨r, k, rfl, rfl, hk, HR, HE⟩ := hrel
    clear q0 ql
    rename World => w1
    by_cases hlt : k + 1 < n
    · have hky : k < ys.length := by have := HN.out; omega
      have q1 : w1.cell? ⟨b, k + 1, none⟩ = some (.int .i64 ys[k]) := by
        rw [(HB.out.ext HE.out (by simp)).cell]
        simp [Nums, hky]
      have ql := (HB.out.ext HE.out (by simp)).lt
      have HS : Hd (topL x (ys.take (k + 1)) = max (topL x (ys.take k)) ys[k]) := hd (by rw [List.take_add_one, List.getElem?_eq_getElem hky]; exact topL_snoc _ _ _)
      generalize ys[k] = y at *
      go_wp2_with fail
      go_roundw
      case rel => exact ⟨max r y, k + 1, by first | rfl | exact congrArg _ (by omega), by go_num, by omega, hd (by rw [HS.out, HR.out]), HE⟩
      case measure => simp [intOf]; omega
    · have hky : k = ys.length := by have := HN.out; omega
      subst hky
      have HR2 : Hd (r = topL x ys) := hd (by rw [HR.out, List.take_length])
      go_wp2_with fail
      go_ret
      exact ⟨ret_int HR2.out, HE.out⟩

/-- A new row of ints. -/
def sRowI (lo n : Nat) (xs : List Int) : Spec := ⟨Nat, 0, fun b => .slice (some ⟨b, 0, none⟩) n n, fun b w => Blk w b 3 (Nums xs) ∧ lo ≤ b⟩
theorem sRowI.stays {lo n : Nat} {xs : List Int} : ∀ y w w', RH [] w w' → (sRowI lo n xs).V y w → (sRowI lo n xs).V y w' := fun _ _ _ hR h => ⟨Blk.ext h.1 hR.1 List.not_mem_nil, h.2⟩
theorem make_zeros (n : Nat) (hn : n ≤ 1000000) : ∀ W : World, (Instr.makeSlice 22 (.int .i64 n) (.int .i64 n)).run Try.prog W = .ok (.slice (some ⟨W.heap.size, 0, none⟩) n n) (W.alloc (.cells (Nums (List.replicate n 0)) 3)) := by
  intro W
  rw [run_make_row' 22 3 (.int .i64 0) 8 Try.underlying22 (by kernel_rfl) rfl .i64 .i64 n (by omega) (by omega) W]
  congr 3
  apply Array.ext
  · simp [Nums, madeCells]
  · intro i h1 h2
    simp [Nums, madeCells, Nat.mod_one]
theorem rdL_zero (n : Nat) : rdL (fun _ => 0) n = List.replicate n 0 := by
  unfold rdL
  apply List.ext_getElem <;> simp

set_option maxHeartbeats 4000000 in
set_option maxRecDepth 100000 in
theorem predicted_any (m : Mc) (A : Option Addr) (cap Q : Nat) (xs : List Ins) (w : World) (hok : m.okB = true) (hc : codeE m 0 xs = 0) (ht : (turnsS xs).sum ≤ 40000000) (hl : xs.length ≤ 100000) (hQ : m.queues = Q) (h : RdC w A xs) (hA : xs = [] ∨ ∀ a, A = some a → a.block < w.heap.size) :
    Calls Try.prog 65 #[.agg m.cells.toArray, .slice A xs.length cap] w fun e w' => e = .returned (.int .i64 (predS m xs)) ∧ Ext [] w w' := by
  have hmc := mc_ok hok
  have hq1 : 1 ≤ Q := by omega
  have hq4 : Q ≤ 4 := by omega
  have HRS : Hd (RunSt (ckStep m.lanes) xs (ckEnd m xs) xs.length 0 ck0) := hd ⟨by omega, rfl, 0, ck_start 0 (Int.le_refl _), by have := cnt_le hc ht; omega⟩
  have HPS : Hd (predS m xs = topL (ckEnd m xs).cyc (rdL (ckEnd m xs).rd Q)) := hd (by unfold predS; rw [hQ]; rfl)
  have HPA := hd (fun (c rb eb : Nat) (h1 : rb ≠ c) (h2 : xs = [] ∨ ∀ a, A = some a → a.block ≠ c ∧ a.block ≠ rb) (h3 : eb ≠ c ∧ eb ≠ rb) => pass_any m A cap eb c rb Q xs hok hc hl hQ h1 h2 h3 xs.length xs.length 0)
  have HLE := hd (fun W (hW : RdC W A xs) => loopEnds_any m A cap xs W hW hl hc)
  have HCB : Hd (CkB 1000000000000 (ckEnd m xs)) := hd (by
    have := runS_bound (B := CkB) (K := 5000) (step := ckStep m.lanes) (tick := ckTick) (codeE_loops hc) (fun x hx c s hb => hb.ck (by omega) (by omega) (codeE_valid hok hc x hx)) (fun c s hb => hb.tick) xs.length 0 0 ck0 (ck_start 0 (Int.le_refl _))
    have hle := cnt_le hc ht
    obtain ⟨h1, h2, h3⟩ := this
    exact ⟨h1, by unfold ckEnd; omega, fun d => by have := h3 d; unfold ckEnd; omega⟩)
  have HMK := hd (make_zeros Q (by omega))
  have HR := hd h
  have HA := hd hA
  have HQ := hd hQ
  clear hok hc ht hQ h hA hmc
  generalize predS m xs = P at *
  generalize ckEnd m xs = T at *
  obtain ⟨m0, m1, m2, m3, m4⟩ := m
  simp only [Mc.cells]
  obtain rfl : m4 = Q := HQ.out
  go_enter Try.func65, Try.ntmps65
  go_wp2_with fail
  have HM1 := hd (Blk.new w 40 #[.int .i64 m0, .int .i64 m1, .int .i64 m2, .int .i64 m3, .int .i64 Q])
  have HE1 := hd ((Ext.refl [] w).alloc (.cells #[.int .i64 m0, .int .i64 m1, .int .i64 m2, .int .i64 m3, .int .i64 Q] 40))
  refine wp_region_rel 4 (JH [] _) (RH []) (kinds [(3, sRowI w.heap.size Q (List.replicate Q 0))]) (by kernel_rfl) (by kernel_rfl) JH.less ?_ JH.start ?_
  · exact Stays.cons sRowI.stays Stays.nil
  simp only [List.take_succ_cons, List.take_zero, List.drop_succ_cons, List.drop_zero]
  repeat
    refine relAt_det rfl rfl ?_
    apply Exists.intro
    refine ⟨fun wr nr hJ => ?_, ?_⟩
    · have qx := HM1.out.ext hJ.1 (by simp); have qxc := qx.cell; have qxl := qx.lt; clear qx
      clear hJ
      (go_simp; try go_bits)
      first | rfl | exact ⟨rfl, rfl⟩
    simp only [Act.put, List.setIfInBounds_toArray, List.set_cons_succ, List.set_cons_zero]
  refine rel_new (sRowI w.heap.size Q (List.replicate Q 0)) rfl rfl ?_ ?_
  · intro wr nr hJ hf
    have hm := HMK.out wr
    refine ⟨wr.heap.size, .cells (Nums (List.replicate Q 0)) 3, ?_, Blk.new _ _ _, by have := (HE1.out.trans hJ.1).size; exact this⟩
    clear hJ hf
    go_simp
    rfl
  intro (rb : Nat)
  simp only [Act.put, List.setIfInBounds_toArray, List.set_cons_succ, List.set_cons_zero]
  dsimp only [sRowI]
  refine relAt_nil (fun w2 hJ hF => ?_)
  have hf3 : Blk w2 rb 3 (Nums (List.replicate Q 0)) ∧ w.heap.size ≤ rb := hF 3
  have HB2 := hd hf3.1
  have hrg := hf3.2
  have HE2 := hd (HE1.out.trans hJ.1)
  have hrl := HB2.out.lt
  have hww := HE2.out.size
  clear hJ hF hf3
  have HC3 : Hd (CkAt (w2.alloc (.cells #[.int .i64 m0, .int .i64 m1, .int .i64 m2, .int .i64 m3, .int .i64 Q, .int .i64 0, .slice (some ⟨rb, 0, none⟩) Q Q] 133)) w2.heap.size rb Q ⟨m0, m1, m2, m3, Q⟩ ck0) := hd ⟨Blk.new _ _ _, by show Blk _ rb _ (Nums (rdL (fun _ => 0) Q)); rw [rdL_zero]; exact HB2.out.alloc _, by omega⟩
  have HE3 := hd (HE2.out.alloc (.cells #[.int .i64 m0, .int .i64 m1, .int .i64 m2, .int .i64 m3, .int .i64 Q, .int .i64 0, .slice (some ⟨rb, 0, none⟩) Q Q] 133))
  go_wp2_with fail
  generalize w2.alloc (.cells #[.int .i64 m0, .int .i64 m1, .int .i64 m2, .int .i64 m3, .int .i64 Q, .int .i64 0, .slice (some ⟨rb, 0, none⟩) Q Q] 133) = w3 at *
  generalize w2.heap.size = c at *
  refine (HLE.out _ (HR.out.ext HE3.out (by simp))).mono ?_
  rintro e w4 ⟨eb, rfl, hE4, hB4, hge⟩
  have HB4 := hd hB4
  have HC4 := hd (HC3.out.ext hE4 (by simp) (by simp))
  have HE4 := hd (HE3.out.trans hE4)
  have hcl := HC3.out.lt.1
  have hrl3 := HC3.out.lt.2
  have hne : rb ≠ c := HC3.out.ne
  have hAA : xs = [] ∨ ∀ a, A = some a → a.block ≠ c ∧ a.block ≠ rb := HA.out.imp id fun h a ha => by have := h a ha; omega
  have HAA := hd hAA
  clear hE4 hB4 hAA
  go_wp2_with fail
  refine (HPA.out c rb eb hne HAA.out (by omega) w4 ck0 _ (Nat.le_refl _) hl (by omega) HRS.out (HR.out.ext HE4.out (by simp)) HB4.out HC4.out).mono ?_
  rintro e w5 ⟨v5, rfl, hE5, hC5⟩
  have HC5 := hd hC5
  have HE5 := hd (HE4.out.step hE5 (fun x hx => by simp at hx; right; omega))
  obtain ⟨y0, ys, hys⟩ : ∃ y0 ys, rdL T.rd Q = y0 :: ys := by
    cases hr : rdL T.rd Q with
    | nil => have := rdL_length T.rd Q; rw [hr] at this; simp at this; omega
    | cons y ys => exact ⟨y, ys, rfl⟩
  have HB5 : Hd (Blk w5 rb 3 (Nums (y0 :: ys))) := hd (by rw [← hys]; exact hC5.row)
  have hyl : ys.length + 1 = Q := by have := rdL_length T.rd Q; rw [hys] at this; simpa using this
  have HYL := hd hyl
  have HP5 : Hd (P = max T.cyc (topL y0 ys)) := hd (by rw [HPS.out, hys, ← topL_max]; rfl)
  have hcy0 := HCB.out.1
  have hcy1 := HCB.out.2.1
  clear hE5 hC5 hys hyl
  go_wp2_with fail
  have HMX := hd (fun W (hW : Ext [] w5 W) => maxInt_any rb Q y0 ys W (HB5.out.ext hW (by simp)) HYL.out (by omega))
  generalize topL y0 ys = mx at *
  refine wp_region_rel 9 (JE _) (Ext []) (kinds [(8, sFix (.int .i64 mx))]) (by kernel_rfl) (by kernel_rfl) JE.less ?_ JE.start ?_
  · repeat (first | exact Stays.nil | refine Stays.cons sFix.stays ?_)
  simp only [List.take_succ_cons, List.take_zero, List.drop_succ_cons, List.drop_zero]
  repeat
    refine relAt_det rfl rfl ?_
    apply Exists.intro
    refine ⟨fun wr nr hJ => ?_, ?_⟩
    · have hC := HC5.out.ext hJ (by simp) (by simp); obtain ⟨c0, c1, c2, c3, c4, c5, c6⟩ := hC.at; have cl := hC.lt.1; clear hC
      clear hJ
      (go_simp; try go_bits)
      first | rfl | exact ⟨rfl, rfl⟩
    simp only [Act.put, List.setIfInBounds_toArray, List.set_cons_succ, List.set_cons_zero]
  refine rel_fix rfl rfl ?_ ?_
  · apply Exists.intro
    apply Exists.intro
    refine ⟨fun wr => ?_, fun wr nr hJ => ?_⟩
    · go_simp
      first | exact ⟨rfl, rfl⟩ | rfl
    · exact HMX.out _ hJ
  simp only [Act.put, List.setIfInBounds_toArray, List.set_cons_succ, List.set_cons_zero]
  repeat
    refine relAt_det rfl rfl ?_
    apply Exists.intro
    refine ⟨fun wr nr hJ => ?_, ?_⟩
    · have hC := HC5.out.ext hJ (by simp) (by simp); obtain ⟨c0, c1, c2, c3, c4, c5, c6⟩ := hC.at; have cl := hC.lt.1; clear hC
      clear hJ
      (go_simp; try go_bits)
      first | rfl | exact ⟨rfl, rfl⟩
    simp only [Act.put, List.setIfInBounds_toArray, List.set_cons_succ, List.set_cons_zero]
  refine relAt_nil (fun w6 hJ hF => ?_)
  have HE6 := hd (HE5.out.trans hJ)
  clear hJ hF
  go_wp2_with fail
  go_ret
  exact ⟨ret_int HP5.out.symm, HE6.out⟩
end Go.Proofs.Ytedabpldigcffaa
