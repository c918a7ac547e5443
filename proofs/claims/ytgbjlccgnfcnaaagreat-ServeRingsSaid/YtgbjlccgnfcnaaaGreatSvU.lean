/- Package serve: compute and work at the one request (the walk). -/
import Derived.Test.YtgbjlccgnfcnaaaGreatSvT
namespace Go.Proofs.YtgbjlccgnfcnaaaGreat
open Go.RowKit
set_option linter.unusedSimpArgs false
set_option linter.unusedVariables false
attribute [local irreducible] relAt

def pg1 (tv : Value) (used : Int) : Array Value := #[.int .i64 0, tv, .int .i64 1, .int .i64 used]
def entOf (w : World) (r : Nat) : Int := match w.cell? ⟨r, 8, none⟩ with | some (.int _ n) => n | _ => 0
def sOneI : Spec := ⟨Nat, 0, fun b => .slice (some ⟨b, 0, none⟩) 1 1, fun b w => w.cell? ⟨b, 0, none⟩ = some (.int .i64 1)⟩
def sTk : Spec := ⟨Nat × Nat, (0, 0), fun u => .slice (some ⟨u.1, 0, none⟩) 1 u.2, fun _ _ => True⟩
theorem sOneI.stays : ∀ y w w', Ext [] w w' → sOneI.V y w → sOneI.V y w' := fun _ _ _ hE h => hE.held h List.not_mem_nil
theorem sTk.stays : ∀ y w w', Ext [] w w' → sTk.V y w → sTk.V y w' := fun _ _ _ _ h => h
section
variable {ops : Array Oper} {S : Nat → Option Spec} {Q : Act → World → Prop} {k : Nat} {o : Oper} {rest : List Oper} {a : Act} {F : Nat → World → Prop} {w0 : World}
/-- An append of one int to nil. -/
theorem rel_appnil (b : Nat) (s x : Operand) (hS : S k = some sTk) (hgd : o.guard = none) (ho : o.op = .call { callee := .builtin .append, args := #[s, x], argTypes := #[22, 22] })
    (hs : a.eval s = .slice none 0 0) (hx : a.eval x = .slice (some ⟨b, 0, none⟩) 1 1) (hv : ∀ w n', JE w0 (n' + 1) w → (∀ e ∈ o.after, Region.binds .any e = true → F e.on w) → w.cell? ⟨b, 0, none⟩ = some (.int .i64 1))
    (h : ∀ u : Nat × Nat, relAt Tryz.prog ops (JE w0) (Ext []) S Q (k + 1) rest (a.put o.dst (.slice (some ⟨u.1, 0, none⟩) 1 u.2)) (upd F k (sTk.V u))) :
    relAt Tryz.prog ops (JE w0) (Ext []) S Q k (o :: rest) a F := by
  refine relAt_value sTk hS (by simp [Region.wanted, hgd]) (fun w n' hJ hf => ?_) h
  obtain ⟨i0, hi0, hz0, hz1, hz2⟩ := intInfo
  have h1 := hv w n' hJ hf
  have hr := run_append_nil (P := Tryz.prog) w 22 o.type 3 i0 _ Tryz.underlying22 hi0 hz0 ⟨b, 0, none⟩ 1 1 [.int .i64 1] (by rw [hz1]; rfl) (fun j u hj => by
    match j, hj with
    | 0, hj => cases hj; exact h1
    | j + 1, hj => simp at hj) (by omega) (by omega) (by rw [hz2]; omega)
  have hE : Ext [] w (w.drew.alloc (.cells ([Value.int .i64 1].toArray ++ Builtin.zeroCells (Value.cells (.int .i64 0)) (grownCap w 1 0 3 - 1)) 3)) := (Ext.refl _ _).drew.alloc _
  refine ⟨(w.heap.size, grownCap w 1 0 3), _, ?_, trivial, Ext.trans hJ hE, hE⟩
  unfold execOp
  simp only [ho, resolve, invoke, builtin, Sem.run_bind, Sem.run_pure, Result.andThen_ok, List.map_toArray, List.map_cons, List.map_nil, hs, hx, hr]
  rfl
end
/-- The request's entries are computed. -/
def CompP (base s mb pb r tg tc ln : Nat) (D : Dm) (now rec syn : Int) (lv pv : Value) (ls : Bool) (w w' : World) : Prop := ∃ hv pgc, SubIn w' base s mb pb r D now rec syn lv ln pv tg tc hv 1 true ls pgc ∧ Ext [r, pb] w w'
set_option maxHeartbeats 8000000 in
set_option maxRecDepth 100000 in
theorem compute_any (base s mb pb r tg tc ln : Nat) (D : Dm) (now rec syn : Int) (lv pv : Value) (wk ls : Bool) (w : World) (bh : Value) (h : SubIn w base s mb pb r D now rec syn lv ln pv tg tc (.slice none 0 0) 0 wk ls pg0) :
    Calls Tryz.prog 72 #[.pointer (some ⟨s, 0, none⟩), .pointer (some ⟨r, 0, none⟩), bh] w fun e w' => e = .returned (.tuple #[]) ∧ CompP base s mb pb r tg tc ln D now rec syn lv pv ls w w' := by
  obtain ⟨i0, hi0, hz0, hz1, hz2⟩ := intInfo
  have H := hd h
  clear h
  go_enter Tryz.func72, Tryz.ntmps72
  go_wp2_with fail
  refine wp_region_rel 9 (JE _) (Ext []) (kinds []) (by kernel_rfl) (by kernel_rfl) JE.less ?_ JE.start ?_
  · repeat (first | exact Stays.nil | refine Stays.cons sFix.stays ?_)
  simp only [List.take_succ_cons, List.take_zero, List.drop_succ_cons, List.drop_zero]
  repeat
    refine relAt_det rfl rfl ?_
    apply Exists.intro
    refine ⟨fun wr nr hJ => ?_, ?_⟩
    · have qs := (H.o.ext hJ).sv.srv.cell; have qsl := (H.o.ext hJ).sv.srv.lt; have qr := (H.o.ext hJ).rq.cell; have qrl := (H.o.ext hJ).rq.lt; simp only [svCells] at qs; simp only [rqCells] at qr
      clear hJ
      (go_simp; try go_bits)
      first | rfl | exact ⟨rfl, rfl⟩
    simp only [Act.put, List.setIfInBounds_toArray, List.set_cons_succ, List.set_cons_zero]
  refine relAt_nil (fun w1 hJ hF => ?_)
  have H1 := hd (H.o.ext hJ)
  have HE1 := hd (Ext.nil (S := [r, pb]) hJ)
  clear hF hJ
  go_wp2_with fail
  refine (page_any base s mb pb r tg tc ln D now rec syn 0 lv pv (.slice none 0 0) wk ls w1 bh H1.o).mono ?_
  rintro e w2 ⟨rfl, h2, hE⟩
  have H2 := hd h2
  have HE2 := hd (HE1.o.trans (hE.mono (T := [r, pb]) (fun x hx => .inl (by simp at hx; simp [hx]))))
  clear h2 hE
  go_wp2_with fail
  refine wp_region_rel 10 (JE _) (Ext []) (kinds []) (by kernel_rfl) (by kernel_rfl) JE.less ?_ JE.start ?_
  · repeat (first | exact Stays.nil | refine Stays.cons sFix.stays ?_)
  simp only [List.take_succ_cons, List.take_zero, List.drop_succ_cons, List.drop_zero]
  repeat
    refine relAt_det rfl rfl ?_
    apply Exists.intro
    refine ⟨fun wr nr hJ => ?_, ?_⟩
    · have qs := (H2.o.ext hJ).sv.srv.cell; have qsl := (H2.o.ext hJ).sv.srv.lt; have qr := (H2.o.ext hJ).rq.cell; have qrl := (H2.o.ext hJ).rq.lt; simp only [svCells] at qs; simp only [rqCells] at qr
      clear hJ
      (go_simp; try go_bits)
      first | rfl | exact ⟨rfl, rfl⟩
    simp only [Act.put, List.setIfInBounds_toArray, List.set_cons_succ, List.set_cons_zero]
  refine relAt_nil (fun w3 hJ hF => ?_)
  have H3 := hd (H2.o.ext hJ)
  have HE3 := hd (HE2.o.trans (Ext.nil (S := [r, pb]) hJ))
  clear hF hJ
  have qp := H3.o.pg.cell
  have qpl := H3.o.pg.lt
  have qpf := H3.o.pg.frozen
  simp only [pg0] at qp
  go_upto_region 4 with fail
  have hX := ((((Ext.refl [pb] w3).setCell (p := ⟨pb, 0, none⟩) (.inl (by simp)) (.int .i64 0)).setCell (p := ⟨pb, 1, none⟩) (.inl (by simp)) (.slice none 0 0)).setCell (p := ⟨pb, 2, none⟩) (.inl (by simp)) (.int .i64 1)).setCell (p := ⟨pb, 3, none⟩) (.inl (by simp)) (.int .i64 0)
  have H4 := hd (H3.o.onP hX (Blk.all4 H3.o.pg _ _ _ _))
  have HE4 := hd (HE3.o.trans (hX.mono (T := [r, pb]) (fun x hx => .inl (by simp at hx; simp [hx]))))
  clear hX qp qpl qpf
  generalize hW4 : World.setCell _ _ _ = w4 at *
  clear hW4
  have qr4 := H4.o.rq.cell
  have qr4l := H4.o.rq.lt
  simp only [rqCells] at qr4
  have HU4 := hd (Blk.new w4 3 #[.int .i64 0])
  have HA4 := hd ((Ext.refl [] w4).alloc (.cells #[.int .i64 0] 3))
  go_upto_region 5 with (
    refine wpList_append_lies _ rfl _ _ 22 rfl w4.heap.size 3 i0 _ 1 8 Tryz.underlying22 hi0 hz0 hz1 hz2 rfl (by decide) (.slice none 0 0) 0 [] rfl ⟨rfl, .inl ⟨rfl, rfl⟩⟩ ⟨w4.heap.size, 0, none⟩ 1 1 [.int .i64 0] rfl rfl ?c1 ?c2 (by omega) ?c3 ?c4 ?c5 _ rfl ?_
    case c1 => exact cell_one_new _ _ _
    case c2 => intro u hu; rw [List.mem_singleton.1 hu]; rfl
    case c3 => unfold maxLen; omega
    case c4 => omega
    case c5 => simp
    intro g5 c5 w5 ho8 hg8 hi8 ha8
    have HO5 := hd ho8
    have hE5 := HA4.o.grown hg8 (fun q hq => by cases hq)
    have HE5 := hd hE5
    have qr5 := (H4.o.ext hE5).rq.cell
    have qr5l := (H4.o.ext hE5).rq.lt
    have qr5f := (H4.o.ext hE5).rq.frozen
    simp only [rqCells] at qr5
    clear ho8 hg8 hi8 hE5)
  have hX : Ext [r] w5 (w5.setCell ⟨r, 7, none⟩ (.slice (some ⟨g5, 0, none⟩) 1 c5)) := (Ext.refl _ _).setCell (.inl (by simp)) _
  have hHB : ∃ C, Blk w5 g5 3 C ∧ C[0]? = some (.int .i64 0) := by
    obtain ⟨C, hC⟩ := own_blk HO5.o (g := g5) rfl
    have h0 := row_cells HO5.o 0 _ rfl
    rw [hC.cell] at h0
    exact ⟨C, hC, h0⟩
  have H5 := hd ((H4.o.ext HE5.o).onR (hv' := .slice (some ⟨g5, 0, none⟩) 1 c5) (entries' := 0) (wk' := wk) (ls' := ls) hX ((H4.o.ext HE5.o).rq.set_' 7 _ _ rfl))
  have hHR := (H4.o.ext HE5.o).rq
  have HH5 := hd (show (w5.setCell ⟨r, 7, none⟩ (.slice (some ⟨g5, 0, none⟩) 1 c5)).cell? ⟨g5, 0, none⟩ = some (.int .i64 0) by
    obtain ⟨C, hC, h0⟩ := hHB
    exact ((hC.ext hX (hC.ne hHR (by decide))).cell 0).trans h0)
  have HE6 := hd ((HE4.o.trans (Ext.nil (S := [r, pb]) HE5.o)).trans (hX.mono (T := [r, pb]) (fun x hx => .inl (by simp at hx; simp [hx]))))
  clear hX hHB hHR qr4 qr4l qr5 qr5l qr5f
  generalize hW6 : World.setCell _ _ _ = w6 at *
  clear hW6
  refine wp_region_rel 16 (JE _) (Ext []) (kinds []) (by kernel_rfl) (by kernel_rfl) JE.less ?_ JE.start ?_
  · repeat (first | exact Stays.nil | refine Stays.cons sFix.stays ?_)
  simp only [List.take_succ_cons, List.take_zero, List.drop_succ_cons, List.drop_zero]
  repeat
    refine relAt_det rfl rfl ?_
    apply Exists.intro
    refine ⟨fun wr nr hJ => ?_, ?_⟩
    · have qs := (H5.o.ext hJ).sv.srv.cell; have qsl := (H5.o.ext hJ).sv.srv.lt; have qr := (H5.o.ext hJ).rq.cell; have qrl := (H5.o.ext hJ).rq.lt; simp only [svCells] at qs; simp only [rqCells] at qr; have qh := hJ.held HH5.o (by simp); have qhl := World.block_lt_of_cell? _ _ qh; simp only at qhl
      clear hJ
      (go_simp; try go_bits)
      first | rfl | exact ⟨rfl, rfl⟩
    simp only [Act.put, List.setIfInBounds_toArray, List.set_cons_succ, List.set_cons_zero]
  refine relAt_nil (fun w7 hJ hF => ?_)
  have H7 := hd (H5.o.ext hJ)
  have HE7 := hd (HE6.o.trans (Ext.nil (S := [r, pb]) hJ))
  clear hF hJ
  go_wp2_with fail
  go_loopw [66] (fun _ wr => Hd (Ext [r, pb] w wr) ∧ ((Hd (SubIn wr base s mb pb r D now rec syn lv ln pv tg tc (.slice (some ⟨g5, 0, none⟩) 1 c5) 0 wk ls (pg1 (.slice none 0 0) 0)) ∧ entOf wr r = 0) ∨ ∃ gt ct, Hd (SubIn wr base s mb pb r D now rec syn lv ln pv tg tc (.slice (some ⟨g5, 0, none⟩) 1 c5) 1 wk ls (pg1 (.slice (some ⟨gt, 0, none⟩) 1 ct) 0)) ∧ entOf wr r = 1)) (fun _ wr => (1 - entOf wr r).toNat)
  case atStart => exact ⟨HE7, .inl ⟨H7, by unfold entOf; rw [H7.o.rq.cell 8]; rfl⟩⟩
  case round =>
    obtain ⟨HE, hc⟩ := hrel
    rename World => w8
    rcases hc with ⟨H8, hen⟩ | ⟨gt, ct, H8, hen⟩
    · go_wp2_with fail
      refine wp_region_rel 21 (JE _) (Ext []) (kinds []) (by kernel_rfl) (by kernel_rfl) JE.less ?_ JE.start ?_
      · repeat (first | exact Stays.nil | refine Stays.cons sFix.stays ?_)
      simp only [List.take_succ_cons, List.take_zero, List.drop_succ_cons, List.drop_zero]
      repeat
        refine relAt_det rfl rfl ?_
        apply Exists.intro
        refine ⟨fun wr nr hJ => ?_, ?_⟩
        · have hh := H8.o.ext hJ; have qs := hh.sv.srv.cell; have qsl := hh.sv.srv.lt; have qr := hh.rq.cell; have qrl := hh.rq.lt; have qp := hh.pg.cell; have qpl := hh.pg.lt; simp only [svCells] at qs; simp only [rqCells] at qr; simp only [pg1] at qp; clear hh
          clear hJ
          (go_simp; try go_bits)
          first | rfl | exact ⟨rfl, rfl⟩
        simp only [Act.put, List.setIfInBounds_toArray, List.set_cons_succ, List.set_cons_zero]
      refine relAt_nil (fun w9 hJ hF => ?_)
      have H9 := hd (H8.o.ext hJ)
      have HE9 := hd (HE.o.trans (Ext.nil (S := [r, pb]) hJ))
      clear hF hJ
      go_wp2_with fail
      refine wp_region_rel 17 (JE _) (Ext []) (kinds [(15, sOneI), (16, sTk)]) (by kernel_rfl) (by kernel_rfl) JE.less ?_ JE.start ?_
      · exact Stays.cons sOneI.stays (Stays.cons sTk.stays Stays.nil)
      simp only [List.take_succ_cons, List.take_zero, List.drop_succ_cons, List.drop_zero]
      repeat
        refine relAt_det rfl rfl ?_
        apply Exists.intro
        refine ⟨fun wr nr hJ => ?_, ?_⟩
        · have hh := H9.o.ext hJ; have qs := hh.sv.srv.cell; have qsl := hh.sv.srv.lt; have qr := hh.rq.cell; have qrl := hh.rq.lt; have qp := hh.pg.cell; have qpl := hh.pg.lt; simp only [svCells] at qs; simp only [rqCells] at qr; simp only [pg1] at qp; clear hh; have qt := (H9.o.ext hJ).tk.cell; have qtl := World.block_lt_of_cell? _ _ qt; simp only at qtl
          clear hJ
          (go_simp; try go_bits)
          first | rfl | exact ⟨rfl, rfl⟩
        simp only [Act.put, List.setIfInBounds_toArray, List.set_cons_succ, List.set_cons_zero]
      refine relAt_value sOneI rfl rfl (fun wr nr hJ _ => ?_) ?_
      · refine ⟨wr.heap.size, wr.alloc (.cells #[.int .i64 1] 3), ?_, (Blk.new _ _ _).cell 0, Ext.trans hJ ((Ext.refl _ _).alloc _), (Ext.refl _ _).alloc _⟩
        clear hJ
        go_simp
        first | rfl | exact ⟨rfl, rfl⟩
      intro (u15 : Nat)
      simp only [Act.put, List.setIfInBounds_toArray, List.set_cons_succ, List.set_cons_zero]
      refine rel_appnil u15 _ _ rfl rfl rfl rfl rfl (fun wr nr hJ hf => (get_after hf 15 (by kernel_rfl) : sOneI.V u15 wr)) ?_
      intro (u16 : Nat × Nat)
      simp only [Act.put, List.setIfInBounds_toArray, List.set_cons_succ, List.set_cons_zero]
      refine relAt_nil (fun w10 hJ hF => ?_)
      have H10 := hd (H9.o.ext hJ)
      have HE10 := hd (HE9.o.trans (Ext.nil (S := [r, pb]) hJ))
      clear hF hJ
      have qp := H10.o.pg.cell
      have qpl := H10.o.pg.lt
      have qpf := H10.o.pg.frozen
      simp only [pg1] at qp
      go_upto_region 8 with fail
      have hX : Ext [pb] w10 (w10.setCell ⟨pb, 1, none⟩ (.slice (some ⟨u16.1, 0, none⟩) 1 u16.2)) := (Ext.refl _ _).setCell (.inl (by simp)) _
      have H11 := hd (H10.o.onP (pgc' := pg1 (.slice (some ⟨u16.1, 0, none⟩) 1 u16.2) 0) hX (H10.o.pg.set_' 1 _ _ rfl))
      have HE11 := hd (HE10.o.trans (hX.mono (T := [r, pb]) (fun x hx => .inl (by simp at hx; simp [hx]))))
      clear qp qpl qpf hX
      generalize hW11 : World.setCell _ _ _ = w11 at *
      clear hW11
      have qr := H11.o.rq.cell
      have qrl := H11.o.rq.lt
      have qrf := H11.o.rq.frozen
      simp only [rqCells] at qr
      go_wp2_with fail
      go_roundw
      case rel =>
        have hX : Ext [r] w11 (w11.setCell ⟨r, 8, none⟩ (.int .i64 1)) := (Ext.refl _ _).setCell (.inl (by simp)) _
        have hB : Blk (w11.setCell ⟨r, 8, none⟩ (.int .i64 1)) r 76 (rqCells pv (.slice (some ⟨tg, 0, none⟩) 1 tc) (.slice (some ⟨g5, 0, none⟩) 1 c5) 1 wk ls) := H11.o.rq.set_' 8 _ _ rfl
        refine ⟨hd (HE11.o.trans (hX.mono (T := [r, pb]) (fun x hx => .inl (by simp at hx; simp [hx])))), .inr ⟨u16.1, u16.2, hd (H11.o.onR hX hB), ?_⟩⟩
        unfold entOf
        rw [hB.cell 8]
        rfl
      case measure =>
        have hB : Blk (w11.setCell ⟨r, 8, none⟩ (.int .i64 1)) r 76 (rqCells pv (.slice (some ⟨tg, 0, none⟩) 1 tc) (.slice (some ⟨g5, 0, none⟩) 1 c5) 1 wk ls) := H11.o.rq.set_' 8 _ _ rfl
        have h1 : entOf (w11.setCell ⟨r, 8, none⟩ (.int .i64 1)) r = 1 := by
          unfold entOf
          rw [hB.cell 8]
          rfl
        rw [h1, hen]
        decide
    · go_wp2_with fail
      refine wp_region_rel 21 (JE _) (Ext []) (kinds []) (by kernel_rfl) (by kernel_rfl) JE.less ?_ JE.start ?_
      · repeat (first | exact Stays.nil | refine Stays.cons sFix.stays ?_)
      simp only [List.take_succ_cons, List.take_zero, List.drop_succ_cons, List.drop_zero]
      repeat
        refine relAt_det rfl rfl ?_
        apply Exists.intro
        refine ⟨fun wr nr hJ => ?_, ?_⟩
        · have hh := H8.o.ext hJ; have qs := hh.sv.srv.cell; have qsl := hh.sv.srv.lt; have qr := hh.rq.cell; have qrl := hh.rq.lt; have qp := hh.pg.cell; have qpl := hh.pg.lt; simp only [svCells] at qs; simp only [rqCells] at qr; simp only [pg1] at qp; clear hh
          clear hJ
          (go_simp; try go_bits)
          first | rfl | exact ⟨rfl, rfl⟩
        simp only [Act.put, List.setIfInBounds_toArray, List.set_cons_succ, List.set_cons_zero]
      refine relAt_nil (fun w9 hJ hF => ?_)
      have H9 := hd (H8.o.ext hJ)
      have HE9 := hd (HE.o.trans (Ext.nil (S := [r, pb]) hJ))
      clear hF hJ
      have qs := H9.o.sv.srv.cell
      have qsl := H9.o.sv.srv.lt
      have qp := H9.o.pg.cell
      have qpl := H9.o.pg.lt
      have qpf := H9.o.pg.frozen
      simp only [svCells] at qs
      simp only [pg1] at qp
      go_upto_region 10 with fail
      have hX : Ext [pb] w9 (w9.setCell ⟨pb, 3, none⟩ (.int .i64 now)) := (Ext.refl _ _).setCell (.inl (by simp)) _
      have H10 := hd (H9.o.onP (pgc' := pg1 (.slice (some ⟨gt, 0, none⟩) 1 ct) now) hX (H9.o.pg.set_' 3 _ _ rfl))
      have HE10 := hd (HE9.o.trans (hX.mono (T := [r, pb]) (fun x hx => .inl (by simp at hx; simp [hx]))))
      clear qp qpl qpf qs qsl hX
      generalize hW10 : World.setCell _ _ _ = w10 at *
      clear hW10
      have qr := H10.o.rq.cell
      have qrl := H10.o.rq.lt
      have qrf := H10.o.rq.frozen
      simp only [rqCells] at qr
      go_wp2_with fail
      have hX : Ext [r] w10 (w10.setCell ⟨r, 12, none⟩ (.bool true)) := (Ext.refl _ _).setCell (.inl (by simp)) _
      exact bodyPost_end (results_none rfl _ _ _) rfl ⟨rfl, _, _, H10.o.onR hX (H10.o.rq.set_' 12 _ _ rfl), HE10.o.trans (hX.mono (T := [r, pb]) (fun x hx => .inl (by simp at hx; simp [hx])))⟩
end Go.Proofs.YtgbjlccgnfcnaaaGreat
