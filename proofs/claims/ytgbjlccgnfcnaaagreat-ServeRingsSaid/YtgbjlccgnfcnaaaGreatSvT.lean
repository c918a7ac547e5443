/- Package serve: shared, spare and page at the one request and the one page (the walk). -/
import Derived.Test.YtgbjlccgnfcnaaaGreatSvS
namespace Go.Proofs.YtgbjlccgnfcnaaaGreat
open Go.RowKit
set_option linter.unusedSimpArgs false
set_option linter.unusedVariables false
attribute [local irreducible] relAt

set_option maxHeartbeats 4000000 in
set_option maxRecDepth 100000 in
theorem shared_any (base s mb pb r tg tc ln : Nat) (D : Dm) (now rec syn : Int) (lv pv hv : Value) (wk ls : Bool) (pgc : Array Value) (w : World) (h : SubIn w base s mb pb r D now rec syn lv ln pv tg tc hv 0 wk ls pgc) :
    Calls Tryz.prog 71 #[.pointer (some ⟨s, 0, none⟩), .pointer (some ⟨r, 0, none⟩)] w fun e w' => e = .returned (.tuple #[.int .i64 0, .bool false]) ∧ Ext [] w w' := by
  have HE0 := hd ((Ext.refl [] w).alloc (.cells #[.pointer (some ⟨r, 0, none⟩)] 74))
  have HX := hd (Blk.new w 74 #[.pointer (some ⟨r, 0, none⟩)])
  have H := hd (h.ext HE0.o)
  have qs := H.o.sv.srv.cell
  have qsl := H.o.sv.srv.lt
  simp only [svCells] at qs
  clear h
  go_enter Tryz.func71, Tryz.ntmps71
  go_wp2_with fail
  clear qs qsl
  refine wp_region_rel 19 (JE _) (Ext []) (kinds []) (by kernel_rfl) (by kernel_rfl) JE.less ?_ JE.start ?_
  · repeat (first | exact Stays.nil | refine Stays.cons sFix.stays ?_)
  simp only [List.take_succ_cons, List.take_zero, List.drop_succ_cons, List.drop_zero]
  repeat
    refine relAt_det rfl rfl ?_
    apply Exists.intro
    refine ⟨fun wr nr hJ => ?_, ?_⟩
    · have qx := (HX.o.ext hJ (by simp)).cell; have qxl := (HX.o.ext hJ (by simp)).lt; have qr := (H.o.ext hJ).rq.cell; have qrl := (H.o.ext hJ).rq.lt; simp only [rqCells] at qr
      clear hJ
      (go_simp; try go_bits)
      first | rfl | exact ⟨rfl, rfl⟩
    simp only [Act.put, List.setIfInBounds_toArray, List.set_cons_succ, List.set_cons_zero]
  refine relAt_nil (fun w2 hJ hF => ?_)
  have HE2 := hd (HE0.o.trans hJ)
  clear hF hJ
  go_wp2_with fail
  go_ret2
  exact ⟨rfl, HE2.o⟩
/-- The page as New makes it. -/
def pg0 : Array Value := #[.int .i64 0, .slice none 0 0, .int .i64 0, .int .i64 0]
theorem spareF_any (w : World) : Calls Tryz.prog 114 #[.agg pg0] w fun e w' => e = .returned (.bool true) ∧ Ext [] w w' := by
  simp only [pg0]
  go_enter Tryz.func114, Tryz.ntmps114
  go_wp2_with fail
  go_ret
  exact ⟨rfl, (Ext.refl _ _).alloc _⟩
set_option maxRecDepth 100000 in
theorem indexPg_any (pb : Nat) (w : World) (h : Blk w pb 100 pg0) :
    Calls Tryz.prog 83 #[.slice (some ⟨pb, 0, none⟩) 1 1, .func (.func 114) #[] #[]] w fun e w' => e = .returned (.int .i64 0) ∧ Ext [] w w' := by
  have q := h.cell
  have ql := h.lt
  have HS := hd spareF_any
  simp only [pg0] at q HS
  clear h
  go_enter Tryz.func83, Tryz.ntmps83
  go_wp2_with fail
  go_loop [8] (fun i => i = .int .i64 0) (fun i => 0)
  case atStart => rfl
  case round =>
    subst hrel
    go_wp2_with fail
    refine (HS.o _).mono ?_
    rintro e w' ⟨rfl, hE⟩
    have HE := hd hE
    clear hE
    go_wp2_with fail
    go_ret
    exact ⟨rfl, HE.o⟩
set_option maxRecDepth 100000 in
theorem spare_any (base s mb pb r tg tc ln : Nat) (D : Dm) (now rec syn entries : Int) (lv pv hv : Value) (wk ls : Bool) (w : World) (h : SubIn w base s mb pb r D now rec syn lv ln pv tg tc hv entries wk ls pg0) :
    Calls Tryz.prog 104 #[.pointer (some ⟨s, 0, none⟩)] w fun e w' => e = .returned (.tuple #[.int .i64 0, .bool true]) ∧ Ext [] w w' := by
  have HP := hd h.pg
  have qs := h.sv.srv.cell
  have qsl := h.sv.srv.lt
  simp only [svCells] at qs
  clear h
  go_enter Tryz.func104, Tryz.ntmps104
  go_wp2_with fail
  refine (indexPg_any pb w HP.o).mono ?_
  rintro e w' ⟨rfl, hE⟩
  have HE := hd hE
  clear hE qs qsl
  go_wp2_with fail
  go_ret2
  exact ⟨rfl, HE.o⟩
/-- All four cells turned. -/
theorem Blk.all4 {w : World} {b : Nat} {t : TypeId} {x0 x1 x2 x3 : Value} (h : Blk w b t #[x0, x1, x2, x3]) (y0 y1 y2 y3 : Value) :
    Blk ((((w.setCell ⟨b, 0, none⟩ y0).setCell ⟨b, 1, none⟩ y1).setCell ⟨b, 2, none⟩ y2).setCell ⟨b, 3, none⟩ y3) b t #[y0, y1, y2, y3] := by
  have h0 := h.set_' 0 y0 #[y0, x1, x2, x3] rfl
  have h1 := h0.set_' 1 y1 #[y0, y1, x2, x3] rfl
  have h2 := h1.set_' 2 y2 #[y0, y1, y2, x3] rfl
  exact h2.set_' 3 y3 #[y0, y1, y2, y3] rfl
set_option maxHeartbeats 2000000 in
set_option maxRecDepth 100000 in
theorem page_any (base s mb pb r tg tc ln : Nat) (D : Dm) (now rec syn entries : Int) (lv pv hv : Value) (wk ls : Bool) (w : World) (bh : Value) (h : SubIn w base s mb pb r D now rec syn lv ln pv tg tc hv entries wk ls pg0) :
    Calls Tryz.prog 85 #[.pointer (some ⟨s, 0, none⟩), bh] w fun e w' => e = .returned (.tuple #[.int .i64 0, .bool true]) ∧ SubIn w' base s mb pb r D now rec syn lv ln pv tg tc hv entries wk ls pg0 ∧ Ext [pb] w w' := by
  have H := hd h
  clear h
  go_enter Tryz.func85, Tryz.ntmps85
  go_wp2_with fail
  go_loopw [8] (fun _ wr => wr = w) (fun _ _ => 0)
  case atStart => rfl
  case round =>
    subst hrel
    rename World => w
    go_wp2_with fail
    refine (spare_any base s mb pb r tg tc ln D now rec syn entries lv pv hv wk ls w H.o).mono ?_
    rintro e w1 ⟨rfl, hE⟩
    have HE := hd hE
    have H1 := hd (H.o.ext hE)
    have qs := H1.o.sv.srv.cell
    have qsl := H1.o.sv.srv.lt
    have qp := H1.o.pg.cell
    have qpl := H1.o.pg.lt
    have qpf := H1.o.pg.frozen
    simp only [svCells] at qs
    simp only [pg0] at qp
    clear hE
    go_wp2_with fail
    go_ret2
    have hX := ((((Ext.refl [pb] w1).setCell (p := ⟨pb, 0, none⟩) (.inl (by simp)) (.int .i64 0)).setCell (p := ⟨pb, 1, none⟩) (.inl (by simp)) (.slice none 0 0)).setCell (p := ⟨pb, 2, none⟩) (.inl (by simp)) (.int .i64 0)).setCell (p := ⟨pb, 3, none⟩) (.inl (by simp)) (.int .i64 0)
    exact ⟨rfl, H1.o.onP hX (Blk.all4 H1.o.pg _ _ _ _), HE.o.nil.trans hX⟩
end Go.Proofs.YtgbjlccgnfcnaaaGreat
