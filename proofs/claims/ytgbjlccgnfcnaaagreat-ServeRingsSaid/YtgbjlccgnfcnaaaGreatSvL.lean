/- Package serve: New, at the demo model (the walk). -/
import Derived.Test.YtgbjlccgnfcnaaaGreatSvK
import Derived.Carry
import Derived.Deep.CutBlock
namespace Go.Proofs.YtgbjlccgnfcnaaaGreat
open Go.RowKit
set_option linter.unusedSimpArgs false
set_option linter.unusedVariables false

def cfV : Array Value := #[.int .i64 1, .int .i64 4, .int .i64 1, .int .i64 1]
/-- D, with list k moved. -/
def Dm.put (D : Dm) (k g c : Nat) : Dm :=
  match k with
  | 0 => { D with b0 := g, c0 := c }
  | 1 => { D with b1 := g, c1 := c }
  | 2 => { D with b2 := g, c2 := c }
  | 3 => { D with b3 := g, c3 := c }
  | 4 => { D with b4 := g, c4 := c }
  | 5 => { D with b5 := g, c5 := c }
  | 6 => { D with b6 := g, c6 := c }
  | _ => D
/-- List k's numbers: how many, from, to. -/
def Dm.of (k : Nat) : Nat × Int × Int :=
  match k with
  | 0 => (4, 1, 15)
  | 1 => (32, -128, 127)
  | 2 => (16, -128, 127)
  | 3 => (48, -128, 127)
  | 4 => (32, -128, 127)
  | 5 => (7, 0, 1000)
  | _ => (6, 1, 1000)
theorem Dm.list' {w : World} {base : Nat} {D : Dm} (h : D.In w base) (k : Nat) (hk : k < 7) : ∃ b c, D.cells[4 + k]? = some (.slice (some ⟨b, 0, none⟩) (Dm.of k).1 c) ∧ IsL w b (Dm.of k).1 (Dm.of k).2.1 (Dm.of k).2.2 := by
  match k, hk with
  | 0, _ => exact ⟨_, _, rfl, h.i0⟩
  | 1, _ => exact ⟨_, _, rfl, h.i1⟩
  | 2, _ => exact ⟨_, _, rfl, h.i2⟩
  | 3, _ => exact ⟨_, _, rfl, h.i3⟩
  | 4, _ => exact ⟨_, _, rfl, h.i4⟩
  | 5, _ => exact ⟨_, _, rfl, h.i5⟩
  | 6, _ => exact ⟨_, _, rfl, h.i6⟩
theorem Dm.of_bd (k : Nat) : 1 ≤ (Dm.of k).1 ∧ (Dm.of k).1 ≤ 48 := by
  unfold Dm.of
  split <;> simp
theorem Dm.put_cells (D : Dm) (k g c : Nat) (hk : k < 7) : D.cells.setIfInBounds (4 + k) (.slice (some ⟨g, 0, none⟩) (Dm.of k).1 c) = (D.put k g c).cells := by
  match k, hk with
  | 0, _ => rfl
  | 1, _ => rfl
  | 2, _ => rfl
  | 3, _ => rfl
  | 4, _ => rfl
  | 5, _ => rfl
  | 6, _ => rfl
theorem Dm.In.put {w : World} {base : Nat} {D : Dm} (h : D.In w base) (k g c : Nat) (hk : k < 7) (hg : IsL w g (Dm.of k).1 (Dm.of k).2.1 (Dm.of k).2.2) (hb : base ≤ g) : (D.put k g c).In w base := by
  obtain ⟨l0, l1, l2, l3, l4, l5, l6⟩ := h.lo
  match k, hk with
  | 0, _ => exact ⟨hg, h.i1, h.i2, h.i3, h.i4, h.i5, h.i6, hb, l1, l2, l3, l4, l5, l6⟩
  | 1, _ => exact ⟨h.i0, hg, h.i2, h.i3, h.i4, h.i5, h.i6, l0, hb, l2, l3, l4, l5, l6⟩
  | 2, _ => exact ⟨h.i0, h.i1, hg, h.i3, h.i4, h.i5, h.i6, l0, l1, hb, l3, l4, l5, l6⟩
  | 3, _ => exact ⟨h.i0, h.i1, h.i2, hg, h.i4, h.i5, h.i6, l0, l1, l2, hb, l4, l5, l6⟩
  | 4, _ => exact ⟨h.i0, h.i1, h.i2, h.i3, hg, h.i5, h.i6, l0, l1, l2, l3, hb, l5, l6⟩
  | 5, _ => exact ⟨h.i0, h.i1, h.i2, h.i3, h.i4, hg, h.i6, l0, l1, l2, l3, l4, hb, l6⟩
  | 6, _ => exact ⟨h.i0, h.i1, h.i2, h.i3, h.i4, h.i5, hg, l0, l1, l2, l3, l4, l5, hb⟩
/-- None of the lists lies in block s. -/
def Dm.Ne (D : Dm) (s : Nat) : Prop := D.b0 ≠ s ∧ D.b1 ≠ s ∧ D.b2 ≠ s ∧ D.b3 ≠ s ∧ D.b4 ≠ s ∧ D.b5 ≠ s ∧ D.b6 ≠ s
theorem Dm.In.ne {w : World} {base s : Nat} {D : Dm} (h : D.In w base) (hs : w.heap.size ≤ s) : D.Ne s := by
  have h0 := h.i0.lt
  have h1 := h.i1.lt
  have h2 := h.i2.lt
  have h3 := h.i3.lt
  have h4 := h.i4.lt
  have h5 := h.i5.lt
  have h6 := h.i6.lt
  exact ⟨by omega, by omega, by omega, by omega, by omega, by omega, by omega⟩
theorem Dm.Ne.put {D : Dm} {s k g c : Nat} (h : D.Ne s) (hk : k < 7) (hg : g ≠ s) : (D.put k g c).Ne s := by
  obtain ⟨l0, l1, l2, l3, l4, l5, l6⟩ := h
  match k, hk with
  | 0, _ => exact ⟨hg, l1, l2, l3, l4, l5, l6⟩
  | 1, _ => exact ⟨l0, hg, l2, l3, l4, l5, l6⟩
  | 2, _ => exact ⟨l0, l1, hg, l3, l4, l5, l6⟩
  | 3, _ => exact ⟨l0, l1, l2, hg, l4, l5, l6⟩
  | 4, _ => exact ⟨l0, l1, l2, l3, hg, l5, l6⟩
  | 5, _ => exact ⟨l0, l1, l2, l3, l4, hg, l6⟩
  | 6, _ => exact ⟨l0, l1, l2, l3, l4, l5, hg⟩
theorem Dm.In.ext1 {w w' : World} {base s : Nat} {D : Dm} (h : D.In w base) (hn : D.Ne s) (hE : Ext [s] w w') : D.In w' base := by
  obtain ⟨l0, l1, l2, l3, l4, l5, l6⟩ := hn
  exact ⟨h.i0.ext hE (by simpa using l0), h.i1.ext hE (by simpa using l1), h.i2.ext hE (by simpa using l2), h.i3.ext hE (by simpa using l3), h.i4.ext hE (by simpa using l4), h.i5.ext hE (by simpa using l5), h.i6.ext hE (by simpa using l6), h.lo⟩
theorem Dm.agg_eta (D : Dm) : D.cells = #[.int .i64 1, .int .i64 8, .int .i64 4, .int .i64 8, .slice (some ⟨D.b0, 0, none⟩) 4 D.c0, .slice (some ⟨D.b1, 0, none⟩) 32 D.c1, .slice (some ⟨D.b2, 0, none⟩) 16 D.c2, .slice (some ⟨D.b3, 0, none⟩) 48 D.c3, .slice (some ⟨D.b4, 0, none⟩) 32 D.c4, .slice (some ⟨D.b5, 0, none⟩) 7 D.c5, .slice (some ⟨D.b6, 0, none⟩) 6 D.c6] := rfl
/-- A server's cells. -/
def svCells (D : Dm) (now : Int) (mb pb : Nat) (lv : Value) (rec syn : Int) : Array Value := #[.int .i64 1, .int .i64 8, .int .i64 4, .int .i64 8, .slice (some ⟨D.b0, 0, none⟩) 4 D.c0, .slice (some ⟨D.b1, 0, none⟩) 32 D.c1, .slice (some ⟨D.b2, 0, none⟩) 16 D.c2, .slice (some ⟨D.b3, 0, none⟩) 48 D.c3, .slice (some ⟨D.b4, 0, none⟩) 32 D.c4, .slice (some ⟨D.b5, 0, none⟩) 7 D.c5, .slice (some ⟨D.b6, 0, none⟩) 6 D.c6,
  .int .i64 1, .int .i64 4, .int .i64 1, .int .i64 1, .int .i64 8, .int .i64 now, .map (some mb), .slice (some ⟨pb, 0, none⟩) 1 1, lv, .int .i64 rec, .int .i64 syn, .bool false]
def zPg : Array Value := #[.int .i64 0, .slice none 0 0, .int .i64 0, .int .i64 0]
/-- A new server. -/
def SNewP (w : World) (e : Ending) (w' : World) : Prop := ∃ (s mb pb g lc : Nat) (D : Dm), e = .returned (.tuple #[.pointer (some ⟨s, 0, none⟩), .int .i64 0]) ∧ Blk w' s 70 (svCells D 0 mb pb (.slice (some ⟨g, 0, none⟩) 28 lc) 0 28) ∧
  ByR w' w.heap.size (.slice (some ⟨g, 0, none⟩) 28 lc) 28 ∧ w'.heap[mb]? = some (.map #[] 0) ∧ Blk w' pb 100 zPg ∧ w.heap.size ≤ s ∧ w.heap.size ≤ mb ∧ w.heap.size ≤ pb ∧ Ext [] w w'
theorem make_page : ∀ W : World, (Instr.makeSlice 68 (.int .i64 1) (.int .i64 1)).run Tryz.prog W = .ok (.slice (some ⟨W.heap.size, 0, none⟩) 1 1) (W.alloc (.cells zPg 100)) := fun W => by
  obtain ⟨i0, hi0, hz0, hz1, hz2⟩ := info_parts (show ((Tryz.prog).info? 100).map (fun i => (i.zero, i.size, i.bytes)) = some (some (.agg #[.int .i64 0, .slice none 0 0, .int .i64 0, .int .i64 0]), 4, 48) by kernel_rfl)
  have hr := run_make (P := Tryz.prog) W 68 100 i0 _ Tryz.underlying68 hi0 hz0 .i64 .i64 1 1 (by omega) (Int.le_refl _) (by rw [hz2]; omega) (by omega)
  rw [hz1, show madeCells (Value.cells (.agg #[.int .i64 0, .slice none 0 0, .int .i64 0, .int .i64 0])) (Int.toNat 1 * 4) = zPg by kernel_rfl] at hr
  exact hr
set_option maxHeartbeats 4000000 in
set_option maxRecDepth 100000 in
theorem snew_any (D : Dm) (base : Nat) (w : World) (h : D.In w base) (hb : base ≤ w.heap.size) : Calls Tryz.prog 10 #[.agg D.cells, .agg cfV] w fun e w' => SNewP w e w' := by
  have HV := hd (fun W hW => vocabulary_any D base W hW)
  have HD := hd h
  clear h
  obtain ⟨b0, b1, b2, b3, b4, b5, b6, c0, c1, c2, c3, c4, c5, c6⟩ := D
  simp only [Dm.cells, cfV] at HV ⊢
  go_enter Tryz.func10, Tryz.ntmps10
  go_wp2_with fail
  generalize hW0 : World.alloc _ _ = W0
  have HB0 := hd (show Blk W0 w.heap.size 37 (Dm.mk b0 b1 b2 b3 b4 b5 b6 c0 c1 c2 c3 c4 c5 c6).cells by subst hW0; exact (Blk.new w _ _).alloc _)
  have HB1 := hd (show Blk W0 (w.heap.size + 1) 40 #[.int .i64 1, .int .i64 4, .int .i64 1, .int .i64 1] by subst hW0; exact Blk.new' _ _ _ _ (by simp))
  have HE0 := hd (show Ext [] w W0 by subst hW0; exact ((Ext.refl _ _).alloc _).alloc _)
  have HZ0 : W0.heap.size = w.heap.size + 2 := by subst hW0; simp
  have HD0 := hd (HD.o.ext HE0.o (by simp))
  clear hW0
  refine (HV.o W0 HD0.o).mono ?_
  rintro e w1 ⟨rfl, hE⟩
  have HB2 := hd (HB0.o.ext hE (by simp))
  have HB3 := hd (HB1.o.ext hE (by simp))
  have HE1 := hd (HE0.o.trans hE)
  have HD1 := hd (HD0.o.ext hE (by simp))
  have hz1 := hE.size
  have q2 := HB2.o.cell
  have q2l := HB2.o.lt
  have q2f := HB2.o.frozen
  have q3 := HB3.o.cell
  have q3l := HB3.o.lt
  clear hE HV
  go_wp2_with (go_at_call 28; refine (swithin_any _ _ _ _).mono ?_; rintro e w' ⟨rfl, rfl⟩; rw [show inB _ _ _ = true from rfl])
  have HP := hd (show Blk (w1.alloc (.cells (ptrs w.heap.size) 64)) w1.heap.size 64 (ptrs w.heap.size) from Blk.new _ _ _)
  clear q2 q2l q2f q3 q3l
  go_loopw [52] (fun i wr => ∃ (k : Nat) (D' : Dm), i = .int .i64 k ∧ k ≤ 7 ∧ Hd (Blk wr w.heap.size 37 D'.cells) ∧ Hd (D'.In wr base ∧ D'.Ne w.heap.size) ∧ Hd (Ext [w.heap.size] (w1.alloc (.cells (ptrs w.heap.size) 64)) wr)) (fun i _ => (7 - intOf i).toNat)
  case atStart => exact ⟨0, _, rfl, Nat.zero_le _, hd (HB2.o.alloc _), hd ⟨HD1.o.ext ((Ext.refl [] _).alloc _) (by simp), HD.o.ne (Nat.le_refl _)⟩, hd (Ext.refl _ _)⟩
  case round =>
    obtain ⟨k, D', rfl, hk, HM, HDI, HX⟩ := hrel
    rename World => wq
    have hwz := HX.o.size
    simp at hwz
    have hP := HP.o.ext HX.o (by simp; omega)
    have qp := hP.cell
    have qpl := hP.lt
    by_cases hlt : k < 7
    · obtain ⟨b, c, hx, hI⟩ := Dm.list' HDI.o.1 k hlt
      have q := (qp k).trans (ptrs_get w.heap.size k hlt)
      have q2 := (HM.o.cell (4 + k)).trans hx
      have q2l := HM.o.lt
      have q2f := HM.o.frozen (4 + k)
      obtain ⟨hn1, hn2⟩ := Dm.of_bd k
      have HI := hd hI
      have HPC := hd (fun g c => Dm.put_cells D' k g c hlt)
      obtain ⟨N, hN⟩ : ∃ N, N = Dm.of k := ⟨_, rfl⟩
      rw [← hN] at q2 hn1 hn2 HI HPC
      have HNN := hd hN
      obtain ⟨n, lo, hi⟩ := N
      dsimp only at q2 hn1 hn2 HI HPC
      clear hx hI qp hP hN
      go_wp2_with fail
      refine (clone_any b n c lo hi wq HI.o hn1 (by omega)).mono ?_
      rintro e w4 ⟨g, gc, rfl, hI4, hE4, hg4⟩
      have HM4 := hd (HM.o.ext hE4 (by simp))
      have q4 := hE4.held q2 (by simp)
      have q4l := HM4.o.lt
      have q4f := HM4.o.frozen (4 + k)
      have hgl := hI4.lt
      have hsz4 := hE4.size
      have HI4 := hd hI4
      have HE4 := hd hE4
      clear hI4 hE4 q2 q2l q2f q
      go_wp2_with fail
      go_roundw
      case rel =>
        have hgw : g ≠ w.heap.size := by omega
        have hS : Ext [w.heap.size] w4 (w4.setCell ⟨w.heap.size, 4 + k, none⟩ (.slice (some ⟨g, 0, none⟩) n gc)) := (Ext.refl _ _).setCell (.inl (by simp)) _
        refine ⟨k + 1, D'.put k g gc, by go_num, by omega, hd (by rw [← HPC.o g gc]; exact HM4.o.set_ (4 + k) _), hd ⟨?_, HDI.o.2.put hlt hgw⟩, hd ((HX.o.trans HE4.o.nil).trans hS)⟩
        refine ((HDI.o.1.ext HE4.o (by simp)).ext1 HDI.o.2 hS).put k g gc hlt ?_ (by omega)
        rw [← HNN.o]
        exact HI4.o.ext hS (by simpa using hgw)
      case measure => simp [intOf]; omega
    · have hkn : k = 7 := by omega
      subst hkn
      have HCF := hd ((HB3.o.alloc (.cells (ptrs w.heap.size) 64)).ext HX.o (by simp))
      have qc := HCF.o.cell
      have qcl := HCF.o.lt
      have HMK := make_page
      have hmm := @run_makeMap Tryz.prog
      obtain ⟨d0, d1, d2, d3, d4, d5, d6, e0, e1, e2, e3, e4, e5, e6⟩ := D'
      have qm := HM.o.cell
      have qml := HM.o.lt
      simp only [Dm.cells] at qm
      clear qp hP qpl hlt
      go_upto_region 11 with fail
      go_cut [10] (fun v wx => ∃ s mb pb : Nat, v = .pointer (some ⟨s, 0, none⟩) ∧ Hd (Blk wx s 70 (svCells ⟨d0, d1, d2, d3, d4, d5, d6, e0, e1, e2, e3, e4, e5, e6⟩ 0 mb pb (.slice none 0 0) 0 0)) ∧ Hd (wx.heap[mb]? = some (.map #[] 0)) ∧ Hd (Blk wx pb 100 zPg) ∧ Hd (Ext [] wq wx) ∧ wq.heap.size ≤ s ∧ wq.heap.size ≤ mb ∧ wq.heap.size ≤ pb)
      case first =>
        go_region
        all_goals go_wp2_with fail
        all_goals go_meet
        · refine ⟨wq.heap.size + 1 + 1, wq.heap.size, wq.heap.size + 1, rfl, hd (Blk.new' _ _ _ _ (by simp)).drew, hd ?_, hd (((Blk.new' _ _ _ _ (by simp)).alloc _).drew), hd ((((Ext.refl _ _).alloc _).alloc _).alloc _).drew, by omega, by omega, by omega⟩
          show (((wq.alloc (.map #[] 0)).alloc (.cells zPg 100)).alloc _).heap[wq.heap.size]? = _
          rw [Below.heap_alloc _ _ _ (by simp; omega), Below.heap_alloc _ _ _ (by simp)]
          show (wq.heap.push _)[wq.heap.size]? = _
          simp
        · refine ⟨wq.heap.size + 1 + 1, wq.heap.size + 1, wq.heap.size, rfl, hd (Blk.new' _ _ _ _ (by simp)).drew, hd ?_, hd ((((Blk.new _ _ _).alloc _).alloc _).drew), hd ((((Ext.refl _ _).alloc _).alloc _).alloc _).drew, by omega, by omega, by omega⟩
          show (((wq.alloc (.cells zPg 100)).alloc (.map #[] 0)).alloc _).heap[wq.heap.size + 1]? = _
          rw [Below.heap_alloc _ _ _ (by simp)]
          have h8 : (wq.alloc (.cells zPg 100)).heap.size = wq.heap.size + 1 := by simp
          show ((wq.alloc (.cells zPg 100)).heap.push _)[wq.heap.size + 1]? = _
          rw [← h8]
          exact Array.getElem?_push_size
      case rest =>
        obtain ⟨s, mb, pb, rfl, HS, HMB, HPB, HEX, hs, hmb, hpb⟩ := hcut
        clear qm qml qc qcl hmm HMK
        have HM2 := hd (HM.o.ext HEX.o (by simp))
        have HC2 := hd (HCF.o.ext HEX.o (by simp))
        have qm := HM2.o.cell
        have qml := HM2.o.lt
        simp only [Dm.cells] at qm
        have qc := HC2.o.cell
        have qcl := HC2.o.lt
        have HHD := hd (head_any _ base wc (HDI.o.1.ext HEX.o (by simp)))
        simp only [Dm.cells] at HHD
        go_wp2_with fail
        refine HHD.o.mono ?_
        rintro e w5 ⟨g, lc, rfl, hR, hE⟩
        have HS5 := hd (HS.o.ext hE (by simp))
        have q5 := HS5.o.cell
        have q5l := HS5.o.lt
        have q5f := HS5.o.frozen
        have HR5 := hd hR
        have HMB5 := hd ((hE.block mb (Array.getElem?_eq_some_iff.1 HMB.o).1 (by simp)).trans HMB.o)
        have HPB5 := hd (HPB.o.ext hE (by simp))
        have HE5 := hd (HEX.o.trans hE)
        have hzc := HEX.o.size
        have hsm : s ≠ mb := fun h => by
          have h1 := HS5.o
          unfold Blk at h1
          rw [h, HMB5.o] at h1
          cases h1
        have hsp : s ≠ pb := fun h => by subst h; exact absurd (Blk.type HS5.o HPB5.o) (by decide)
        simp only [svCells] at q5
        clear hR hE qm qml qc qcl HHD
        go_wp2_with fail
        go_ret2
        have HW : Ext [] w w1 := HE1.o
        have hww : Ext [w.heap.size] w1 w5 := (((Ext.refl [w.heap.size] w1).alloc _).trans HX.o).trans HE5.o.nil
        refine ⟨s, mb, pb, g, lc, ⟨d0, d1, d2, d3, d4, d5, d6, e0, e1, e2, e3, e4, e5, e6⟩, rfl, (HS5.o.set_' 19 _ _ rfl).set_' 21 _ _ rfl, ?_, ?_, (HPB5.o.far (fun h => hsp h.symm) _).far (fun h => hsp h.symm) _, by omega, by omega, by omega, ?_⟩
        · exact ((HR5.o.low (by omega)).far HS5.o (by decide) 19 _).far (HS5.o.set_ 19 _) (by decide) 21 _
        · rw [Below.heap_setCell _ _ _ _ (by simpa using fun h => hsm h.symm), Below.heap_setCell _ _ _ _ (by simpa using fun h => hsm h.symm)]
          exact HMB5.o
        · exact ((HW.step hww (fun x hx => .inr (by simp at hx; omega))).setCell (.inr (by simp; omega)) _).setCell (.inr (by simp; omega)) _
end Go.Proofs.YtgbjlccgnfcnaaaGreat
