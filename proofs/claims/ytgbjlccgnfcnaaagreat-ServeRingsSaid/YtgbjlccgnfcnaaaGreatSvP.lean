/- Package serve: record (the walk). -/
import Derived.Test.YtgbjlccgnfcnaaaGreatSvO
namespace Go.Proofs.YtgbjlccgnfcnaaaGreat
open Go.RowKit
set_option linter.unusedSimpArgs false
set_option linter.unusedVariables false
attribute [local irreducible] relAt

/-- A server in memory. -/
structure SrvIn (w : World) (base s mb pb : Nat) (D : Dm) (now rec syn : Int) (lv : Value) (ln : Nat) : Prop where
  srv : Blk w s 70 (svCells D now mb pb lv rec syn)
  log : ByR w base lv ln
  lo : base ≤ s
/-- Only rows of bytes from base on, and what is new, have turned since w0. -/
def JK (base : Nat) (w0 : World) (_ : Nat) (w : World) : Prop := Kp base [] w0 w ∧ Ub w0 w
def RK (base : Nat) (w w' : World) : Prop := Kp base [] w w' ∧ Ub w w'
theorem JK.less {base : Nat} {w0 : World} (k : Nat) (w : World) (h : JK base w0 (k + 1) w) : JK base w0 k w := h
theorem JK.start {base : Nat} {w0 : World} {p : Nat} : JK base w0 p w0.drew := ⟨Kp.of_ext (S := []) (Ext.refl _ _).drew (by simp), Ub.of_ext (Ext.refl _ _).drew⟩
theorem JK.step {base : Nat} {w0 w w' : World} {k n : Nat} (h : JK base w0 k w) (hR : RK base w w') : JK base w0 n w' := ⟨h.1.trans hR.1, h.2.trans hR.2⟩
/-- A row of n bytes from base on. -/
def sBy (B n : Nat) : Spec := ⟨Nat × Nat, (0, 0), fun u => .slice (some ⟨u.1, 0, none⟩) n u.2, fun u w => ByR w B (.slice (some ⟨u.1, 0, none⟩) n u.2) n ∧ u.1 < w.heap.size ∧ B ≤ u.1⟩
theorem sBy.stays {base B n : Nat} : ∀ y w w', RK base w w' → (sBy B n).V y w → (sBy B n).V y w' := fun _ _ _ hR h => ⟨h.1.ub hR.2, Nat.lt_of_lt_of_le h.2.1 hR.1.size, h.2.2⟩
section
variable {ops : Array Oper} {S : Nat → Option Spec} {Q : Act → World → Prop} {k : Nat} {o : Oper} {rest : List Oper} {a : Act} {F : Nat → World → Prop} {base : Nat} {w0 : World}
/-- A call that makes a row of bytes. -/
theorem rel_by (B n : Nat) (hS : S k = some (sBy B n)) (hw : Region.wanted o (yielded ops a.tmps) = true)
    (hh : ∃ (f : FuncId) (args : Array Value), (∀ w, (execOp a.eval o).run Tryz.prog w = .ok (.enter f args) w) ∧
      (∀ w n', JK base w0 (n' + 1) w → (∀ e ∈ o.after, Region.binds .any e = true → F e.on w) → Calls Tryz.prog f args w fun e w' => ∃ g cap, e = .returned (.slice (some ⟨g, 0, none⟩) n cap) ∧ ByR w' B (.slice (some ⟨g, 0, none⟩) n cap) n ∧ g < w'.heap.size ∧ B ≤ g ∧ RK base w w'))
    (h : ∀ u : Nat × Nat, relAt Tryz.prog ops (JK base w0) (RK base) S Q (k + 1) rest (a.put o.dst (.slice (some ⟨u.1, 0, none⟩) n u.2)) (upd F k ((sBy B n).V u))) :
    relAt Tryz.prog ops (JK base w0) (RK base) S Q k (o :: rest) a F := by
  obtain ⟨f, args, hr, hu⟩ := hh
  refine relAt_call (sBy B n) hS hw ⟨f, args, hr, fun w n' hJ hf => (hu w n' hJ hf).mono ?_⟩ h
  rintro e w' ⟨g, cap, rfl, h1, h2, h3, hR⟩
  exact ⟨(g, cap), rfl, ⟨h1, h2, h3⟩, JK.step hJ hR, hR⟩
/-- An append of bytes. -/
theorem rel_byapp (B n m : Nat) (t : TypeId) (s x : Operand) (v : Value) (g c : Nat) (hS : S k = some (sBy B (n + m))) (hgd : o.guard = none) (ho : o.op = .call { callee := .builtin .append, args := #[s, x], argTypes := #[t, t] })
    (ht : (Tryz.prog).underlying t = some (.slice 5)) (hs : a.eval s = v) (hx : a.eval x = .slice (some ⟨g, 0, none⟩) m c)
    (hv : ∀ w n', JK base w0 (n' + 1) w → (∀ e ∈ o.after, Region.binds .any e = true → F e.on w) → ByR w B v n ∧ RdU w g m ∧ B ≤ w.heap.size) (hbB : base ≤ B) (hm : 0 < m) (hnm : n + m ≤ 1000000)
    (h : ∀ u : Nat × Nat, relAt Tryz.prog ops (JK base w0) (RK base) S Q (k + 1) rest (a.put o.dst (.slice (some ⟨u.1, 0, none⟩) (n + m) u.2)) (upd F k ((sBy B (n + m)).V u))) :
    relAt Tryz.prog ops (JK base w0) (RK base) S Q k (o :: rest) a F := by
  refine relAt_value (sBy B (n + m)) hS (by simp [Region.wanted, hgd]) (fun w n' hJ hf => ?_) h
  obtain ⟨h1, h2, h3⟩ := hv w n' hJ hf
  obtain ⟨g', cap, w', hr2, k2, k3, k4, k5, k6⟩ := run_by' w t o.type ht B v n h1 g m c h2 hm hnm h3
  have hR : RK base w w' := ⟨k3.low hbB, k6⟩
  refine ⟨(g', cap), w', ?_, ⟨k2, k4, k5⟩, JK.step hJ hR, hR⟩
  unfold execOp
  simp only [ho, resolve, invoke, builtin, Sem.run_bind, Sem.run_pure, Result.andThen_ok, List.map_toArray, List.map_cons, List.map_nil, hs, hx, hr2]
  rfl
end
/-- What record leaves. -/
def RecP (base s mb pb : Nat) (D : Dm) (now rec syn : Int) (ln n : Nat) (w : World) (e : Ending) (w' : World) : Prop := e = .returned (.tuple #[]) ∧ ∃ lv', SrvIn w' base s mb pb D now (rec + 1) syn lv' (ln + (4 * n + 7)) ∧ Kp base [s] w w'
set_option maxHeartbeats 4000000 in
set_option maxRecDepth 100000 in
theorem record_any (base s mb pb b n cap : Nat) (D : Dm) (now rec syn : Int) (lv : Value) (ln : Nat) (w : World) (h : SrvIn w base s mb pb D now rec syn lv ln) (hl : ∀ k, k < n → ∃ x : Int, w.cell? ⟨b, k, none⟩ = some (.int .i64 x)) (hn1 : 1 ≤ n) (hn : n ≤ 100) (hcap : n ≤ cap) (hln : ln ≤ 800000) (hb : base ≤ w.heap.size) (hrec : 0 ≤ rec ∧ rec ≤ 1000000) :
    Calls Tryz.prog 38 #[.pointer (some ⟨s, 0, none⟩), .slice (some ⟨b, 0, none⟩) n cap] w (RecP base s mb pb D now rec syn ln n w) := by
  have H := hd h
  have HL := hd hl
  obtain ⟨x0, hx0⟩ := hl 0 (by omega)
  have hbl := World.block_lt_of_cell? w _ hx0
  simp only at hbl
  have HX0 := hd hx0
  obtain ⟨b0, b1, b2, b3, b4, b5, b6, c0, c1, c2, c3, c4, c5, c6⟩ := D
  have hn0 : 0 < n := hn1
  have hn1z : (1 : Int) ≤ n := by omega
  obtain ⟨A1, hA1⟩ : ∃ A1 : Option Addr, (if cap = 1 then some ⟨b, 0, none⟩ else some ⟨b, 1, none⟩) = A1 := ⟨_, rfl⟩
  have HA1 : Hd (0 < n - 1 → A1 = some ⟨b, 1, none⟩) := hd (fun h => by rw [← hA1, if_neg (by omega)])
  clear h hl hx0
  go_enter Tryz.func38, Tryz.ntmps38
  go_wp2_with fail
  refine wp_region_rel 5 (JE _) (Ext []) (kinds []) (by kernel_rfl) (by kernel_rfl) JE.less ?_ JE.start ?_
  · repeat (first | exact Stays.nil | refine Stays.cons sFix.stays ?_)
  simp only [List.take_succ_cons, List.take_zero, List.drop_succ_cons, List.drop_zero]
  repeat
    refine relAt_det rfl rfl ?_
    apply Exists.intro
    refine ⟨fun wr nr hJ => ?_, ?_⟩
    · have q0 := Ext.held hJ HX0.o (by simp); have ql := Nat.lt_of_lt_of_le hbl hJ.size
      clear hJ
      (go_simp; try go_bits)
      first | rfl | exact ⟨rfl, rfl⟩
    simp only [Act.put, List.setIfInBounds_toArray, List.set_cons_succ, List.set_cons_zero]
  refine relAt_nil (fun w1 hJ hF => ?_)
  have HE1 := hd hJ
  clear hF hJ hA1
  go_wp2_with fail
  refine (body_any x0 b 1 (n - 1) (cap - 1) A1 w1 HA1.o (fun k hk => ?_) (by omega)).mono ?_
  · obtain ⟨x, hx⟩ := HL.o (1 + k) (by omega)
    exact ⟨x, HE1.o.held hx (by simp)⟩
  rintro e w2 ⟨g2, cap2, rfl, hR2, hK2, hg2, hg2b⟩
  have HE2 := hd (HE1.o.trans (hK2.below (Nat.le_refl _)))
  have HR2 := hd hR2
  have hz1 := HE1.o.size
  have hz2 := HE2.o.size
  have HS2 := hd (H.o.srv.ext HE2.o (by simp))
  have HLOG2 := hd (H.o.log.ext HE2.o (by simp))
  obtain ⟨m, hm⟩ : ∃ m, 1 + 4 * (n - 1) = m := ⟨_, rfl⟩
  rw [hm] at HR2 ⊢
  have hm1 : 1 ≤ m := by omega
  have hm4 : m ≤ 400 := by omega
  have HMM := hd hm
  clear hR2 hK2 hm
  go_wp2_with fail
  refine wp_region_rel 10 (JK w2.heap.size w2) (RK w2.heap.size) (kinds [(2, sBy w2.heap.size 2), (7, sBy w2.heap.size 4), (8, sBy w2.heap.size (2 + 4))]) (by kernel_rfl) (by kernel_rfl) JK.less ?_ JK.start ?_
  · exact Stays.cons sBy.stays (Stays.cons sBy.stays (Stays.cons sBy.stays Stays.nil))
  simp only [List.take_succ_cons, List.take_zero, List.drop_succ_cons, List.drop_zero]
  repeat
    refine relAt_det rfl rfl ?_
    apply Exists.intro
    refine ⟨fun wr nr hJ => ?_, ?_⟩
    · skip
      clear hJ
      (go_simp; try go_bits)
      first | rfl | exact ⟨rfl, rfl⟩
    simp only [Act.put, List.setIfInBounds_toArray, List.set_cons_succ, List.set_cons_zero]
  refine rel_by w2.heap.size 2 rfl rfl ?_ ?_
  · apply Exists.intro
    apply Exists.intro
    refine ⟨fun wr => ?_, fun wr nr hJ hf => ?_⟩
    · go_simp
      first | exact ⟨rfl, rfl⟩ | rfl
    · refine (low_any m 2 (by omega) (by omega) wr).mono ?_
      rintro e w' ⟨g, cap, rfl, h1, h2, h3, h4⟩
      exact ⟨g, cap, rfl, h1.low hJ.1.size, h3, Nat.le_trans hJ.1.size h4, Kp.of_ext h2 (by simp), Ub.of_ext h2⟩
  intro (u2 : Nat × Nat)
  simp only [Act.put, List.setIfInBounds_toArray, List.set_cons_succ, List.set_cons_zero]
  repeat
    refine relAt_det rfl rfl ?_
    apply Exists.intro
    refine ⟨fun wr nr hJ => ?_, ?_⟩
    · have qs := (hJ.1.below (Nat.le_refl _)); have qx := HS2.o.ext qs (by simp); have qc := qx.cell; have ql := qx.lt; simp only [svCells] at qc; clear qs qx
      clear hJ
      (go_simp; try go_bits)
      first | rfl | exact ⟨rfl, rfl⟩
    simp only [Act.put, List.setIfInBounds_toArray, List.set_cons_succ, List.set_cons_zero]
  refine rel_by w2.heap.size 4 rfl rfl ?_ ?_
  · apply Exists.intro
    apply Exists.intro
    refine ⟨fun wr => ?_, fun wr nr hJ hf => ?_⟩
    · go_simp
      first | exact ⟨rfl, rfl⟩ | rfl
    · refine (low_any rec 4 (by omega) (by omega) wr).mono ?_
      rintro e w' ⟨g, cap, rfl, h1, h2, h3, h4⟩
      exact ⟨g, cap, rfl, h1.low hJ.1.size, h3, Nat.le_trans hJ.1.size h4, Kp.of_ext h2 (by simp), Ub.of_ext h2⟩
  intro (u7 : Nat × Nat)
  simp only [Act.put, List.setIfInBounds_toArray, List.set_cons_succ, List.set_cons_zero]
  refine rel_byapp w2.heap.size 2 4 48 _ _ (.slice (some ⟨u2.1, 0, none⟩) 2 u2.2) u7.1 u7.2 rfl rfl rfl Tryz.underlying48 rfl rfl ?_ (Nat.le_refl _) (by omega) (by omega) ?_
  · intro wr nr hJ hf
    have f2 : (sBy w2.heap.size 2).V u2 wr := get_after hf 2 (by kernel_rfl)
    have f7 : (sBy w2.heap.size 4).V u7 wr := get_after hf 7 (by kernel_rfl)
    exact ⟨f2.1, f7.1.rd, hJ.1.size⟩
  intro (u8 : Nat × Nat)
  simp only [Act.put, List.setIfInBounds_toArray, List.set_cons_succ, List.set_cons_zero]
  repeat
    refine relAt_det rfl rfl ?_
    apply Exists.intro
    refine ⟨fun wr nr hJ => ?_, ?_⟩
    · skip
      clear hJ
      (go_simp; try go_bits)
      first | rfl | exact ⟨rfl, rfl⟩
    simp only [Act.put, List.setIfInBounds_toArray, List.set_cons_succ, List.set_cons_zero]
  refine relAt_nil (fun w3 hJ hF => ?_)
  have f8 : (sBy w2.heap.size (2 + 4)).V u8 w3 := hF 8
  have HE3 := hd (HE2.o.trans (hJ.1.below (Nat.le_refl _)))
  have HR3 := hd f8.1
  have hg8 := f8.2.1
  have hg8b := f8.2.2
  have hz3 := hJ.1.size
  have HBD3 := hd ((HR2.o.ext (hJ.1.below (Nat.le_refl _)) (by simp)).rd)
  have HS3 := hd (HS2.o.ext (hJ.1.below (Nat.le_refl _)) (by simp))
  have HLOG3 := hd (HLOG2.o.ext (hJ.1.below (Nat.le_refl _)) (by simp))
  clear hF hJ f8
  go_wp2_with (
    refine wpList_by' rfl _ _ 48 rfl Tryz.underlying48 w2.heap.size _ 6 rfl HR3.o g2 m cap2 rfl HBD3.out (by omega) (by omega) (by omega) ?_
    intro g9 c9 w9 h9 k9 l9 b9 u9
    have HB9 := hd h9
    have HE9 := hd (k9.ext HE3.o (by omega) (by simp))
    have hz9 := k9.size
    clear h9 k9 u9)
  have HS9 := hd (H.o.srv.ext HE9.o (by simp))
  have HLOG9 := hd (H.o.log.ext HE9.o (by simp))
  refine wp_region_rel 8 (JK base w9) (RK base) (kinds [(6, sBy base (6 + m + 4)), (7, sBy base (ln + (6 + m + 4)))]) (by kernel_rfl) (by kernel_rfl) JK.less ?_ JK.start ?_
  · exact Stays.cons sBy.stays (Stays.cons sBy.stays Stays.nil)
  simp only [List.take_succ_cons, List.take_zero, List.drop_succ_cons, List.drop_zero]
  repeat
    refine relAt_det rfl rfl ?_
    apply Exists.intro
    refine ⟨fun wr nr hJ => ?_, ?_⟩
    · have qx := hJ.1.blk HS9.o (by simp) (by decide); have qc := qx.cell; have ql := qx.lt; simp only [svCells] at qc; clear qx
      clear hJ
      (go_simp; try go_bits)
      first | rfl | exact ⟨rfl, rfl⟩
    simp only [Act.put, List.setIfInBounds_toArray, List.set_cons_succ, List.set_cons_zero]
  refine rel_by base (6 + m + 4) rfl rfl ?_ ?_
  · apply Exists.intro
    apply Exists.intro
    refine ⟨fun wr => ?_, fun wr nr hJ hf => ?_⟩
    · go_simp
      first | exact ⟨rfl, rfl⟩ | rfl
    · refine (sealedU_any base g9 (6 + m) c9 wr ((HB9.o.low (by omega)).ub hJ.2) (by omega) (Nat.le_trans (by omega) hJ.1.size)).mono ?_
      rintro e w' ⟨g, cap, rfl, h1, h2, h3, h4, h5⟩
      exact ⟨g, cap, rfl, h1, h3, h4, h2, h5⟩
  intro (u6 : Nat × Nat)
  simp only [Act.put, List.setIfInBounds_toArray, List.set_cons_succ, List.set_cons_zero]
  refine rel_byapp base ln (6 + m + 4) 48 _ _ lv u6.1 u6.2 rfl rfl rfl Tryz.underlying48 rfl rfl ?_ (Nat.le_refl _) (by omega) (by omega) ?_
  · intro wr nr hJ hf
    have f6 : (sBy base (6 + m + 4)).V u6 wr := get_after hf 6 (by kernel_rfl)
    exact ⟨HLOG9.o.ub hJ.2, f6.1.rd, Nat.le_trans (by omega) hJ.1.size⟩
  intro (u7b : Nat × Nat)
  simp only [Act.put, List.setIfInBounds_toArray, List.set_cons_succ, List.set_cons_zero]
  refine relAt_nil (fun w4 hJ hF => ?_)
  have f7 : (sBy base (ln + (6 + m + 4))).V u7b w4 := hF 7
  have hS4 := hJ.1.blk HS9.o (by simp) (by decide)
  have HS4 := hd hS4
  have q4 := hS4.cell
  have q4l := hS4.lt
  have q4f := hS4.frozen
  simp only [svCells] at q4
  have HR4 := hd f7.1
  have HK4 := hd ((Kp.of_ext (base := base) (G := [s]) HE9.o (by simp)).trans (hJ.1.mono (by simp)))
  clear hF hJ f7 hS4
  go_wp2_with fail
  have hmn : 6 + m + 4 = 4 * n + 7 := by have := HMM.o; omega
  refine bodyPost_end (results_none rfl _ _ _) rfl ⟨rfl, .slice (some ⟨u7b.1, 0, none⟩) (ln + (6 + m + 4)) u7b.2, ⟨(HS4.o.set_' 19 _ _ rfl).set_' 20 _ _ rfl, ?_, H.o.lo⟩, (HK4.o.trans (Kp.set base s 19 w4 _)).trans (Kp.set base s 20 _ _)⟩
  rw [← hmn]
  exact (HR4.o.far HS4.o (by decide) 19 _).far (HS4.o.set_ 19 _) (by decide) 20 _
end Go.Proofs.YtgbjlccgnfcnaaaGreat
