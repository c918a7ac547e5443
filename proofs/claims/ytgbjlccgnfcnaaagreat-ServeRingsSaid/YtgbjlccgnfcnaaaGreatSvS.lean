/- Package serve: Waiting, and the pieces of Tick on the one request (the walk). -/
import Derived.Test.YtgbjlccgnfcnaaaGreatSvR
namespace Go.Proofs.YtgbjlccgnfcnaaaGreat
open Go.RowKit
set_option linter.unusedSimpArgs false
set_option linter.unusedVariables false
attribute [local irreducible] relAt

section
variable {w w' : World} {base s mb pb r tg tc ln : Nat} {D : Dm} {now rec syn entries : Int} {lv pv hv : Value} {wk ls : Bool} {pgc : Array Value}
theorem ByR.ne {n : Nat} {v : Value} (h : ByR w base v n) {g : Nat} {t : TypeId} {C : Array Value} (hg : Blk w g t C) (ht : t ≠ 5) : ∀ k, v.ownBlock = some k → k ∉ [g] := fun k hk hm => by
  obtain ⟨xs, h1, _⟩ := h
  obtain ⟨E, hE⟩ := own_blk h1 hk
  rw [List.mem_singleton.1 hm] at hE
  exact ht (Blk.type hg hE)
theorem Blk.ne {a b : Nat} {t u : TypeId} {C E : Array Value} (h : Blk w a t C) (k : Blk w b u E) (hne : t ≠ u) : a ∉ [b] := fun hm => h.apart k hne (List.mem_singleton.1 hm)
theorem One1.ne {a b : Nat} {u : TypeId} {E : Array Value} (h : One1 w a) (k : Blk w b u E) (hne : u ≠ 3) : a ∉ [b] := by
  obtain ⟨C, h1, _⟩ := h
  exact h1.ne k (fun e => hne e.symm)
theorem TMap.ne {b g : Nat} {f : Int → Option Value} {t : TypeId} {C : Array Value} (h : TMap w b f) (k : Blk w g t C) : b ∉ [g] := fun hm => h.apart k (List.mem_singleton.1 hm)
theorem SubIn.ext (h : SubIn w base s mb pb r D now rec syn lv ln pv tg tc hv entries wk ls pgc) (hE : Ext [] w w') : SubIn w' base s mb pb r D now rec syn lv ln pv tg tc hv entries wk ls pgc :=
  ⟨⟨h.sv.srv.ext hE (by simp), h.sv.log.ext hE (by simp), h.sv.lo⟩, h.mp.ext hE (by simp), h.rq.ext hE (by simp), h.pg.ext hE (by simp), h.tk.ext hE (by simp), h.tc1, h.lo⟩
theorem SubIn.onR (h : SubIn w base s mb pb r D now rec syn lv ln pv tg tc hv entries wk ls pgc) {hv' : Value} {entries' : Int} {wk' ls' : Bool} (hE : Ext [r] w w') (hB : Blk w' r 76 (rqCells pv (.slice (some ⟨tg, 0, none⟩) 1 tc) hv' entries' wk' ls')) :
    SubIn w' base s mb pb r D now rec syn lv ln pv tg tc hv' entries' wk' ls' pgc :=
  ⟨⟨h.sv.srv.ext hE (h.sv.srv.ne h.rq (by decide)), h.sv.log.ext hE (h.sv.log.ne h.rq (by decide)), h.sv.lo⟩, h.mp.ext hE (h.mp.ne h.rq), hB, h.pg.ext hE (h.pg.ne h.rq (by decide)), h.tk.ext hE (h.tk.ne h.rq (by decide)), h.tc1, h.lo⟩
theorem SubIn.onP (h : SubIn w base s mb pb r D now rec syn lv ln pv tg tc hv entries wk ls pgc) {pgc' : Array Value} (hE : Ext [pb] w w') (hB : Blk w' pb 100 pgc') :
    SubIn w' base s mb pb r D now rec syn lv ln pv tg tc hv entries wk ls pgc' :=
  ⟨⟨h.sv.srv.ext hE (h.sv.srv.ne h.pg (by decide)), h.sv.log.ext hE (h.sv.log.ne h.pg (by decide)), h.sv.lo⟩, h.mp.ext hE (h.mp.ne h.pg), h.rq.ext hE (h.rq.ne h.pg (by decide)), hB, h.tk.ext hE (h.tk.ne h.pg (by decide)), h.tc1, h.lo⟩
theorem SubIn.onS (h : SubIn w base s mb pb r D now rec syn lv ln pv tg tc hv entries wk ls pgc) {now' rec' syn' : Int} (hE : Ext [s] w w') (hB : Blk w' s 70 (svCells D now' mb pb lv rec' syn')) :
    SubIn w' base s mb pb r D now' rec' syn' lv ln pv tg tc hv entries wk ls pgc :=
  ⟨⟨hB, h.sv.log.ext hE (h.sv.log.ne h.sv.srv (by decide)), h.sv.lo⟩, h.mp.ext hE (h.mp.ne h.sv.srv), h.rq.ext hE (h.rq.ne h.sv.srv (by decide)), h.pg.ext hE (h.pg.ne h.sv.srv (by decide)), h.tk.ext hE (h.tk.ne h.sv.srv (by decide)), h.tc1, h.lo⟩
/-- open, on this server. -/
theorem SubIn.opens (h : SubIn w base s mb pb r D now rec syn lv ln pv tg tc hv entries wk ls pgc) : Calls Tryz.prog 40 #[.pointer (some ⟨s, 0, none⟩)] w (OpenP r w) :=
  open1_any s mb r w h.mp (h.sv.srv.cell 17) (h.rq.cell 9) ⟨_, h.sv.srv.cell 0⟩
end
set_option maxHeartbeats 4000000 in
set_option maxRecDepth 100000 in
theorem waiting_any (base s mb pb r tg tc ln : Nat) (D : Dm) (now rec syn entries : Int) (lv pv hv : Value) (wk ls : Bool) (pgc : Array Value) (w : World) (h : SubIn w base s mb pb r D now rec syn lv ln pv tg tc hv entries wk ls pgc) :
    Calls Tryz.prog 30 #[.pointer (some ⟨s, 0, none⟩)] w fun e w' => ∃ g c, e = .returned (.slice (some ⟨g, 0, none⟩) 1 c) ∧ w'.cell? ⟨g, 0, none⟩ = some (.int .i64 3) ∧ Ext [] w w' := by
  obtain ⟨i0, hi0, hz0, hz1, hz2⟩ := intInfo
  have H := hd h
  clear h
  go_enter Tryz.func30, Tryz.ntmps30
  go_wp2_with fail
  refine H.o.opens.mono ?_
  rintro e w1 ⟨g, cap, rfl, hg, hE, hgl, hcap⟩
  have HG := hd hg
  have HE1 := hd hE
  clear hg hE
  go_wp2_with fail
  go_loopw [3, 9] (fun v i wr => (i = .int .i64 0 ∧ v = .slice none 0 0 ∧ wr = w1) ∨ (i = .int .i64 1 ∧ ∃ g1 c1, v = .slice (some ⟨g1, 0, none⟩) 1 c1 ∧ Hd (wr.cell? ⟨g1, 0, none⟩ = some (.int .i64 3)) ∧ Hd (Ext [] w wr))) (fun _ i _ => 1 - (intOf i).toNat)
  case atStart => exact .inl ⟨rfl, rfl, rfl⟩
  case round =>
    rcases hrel with ⟨rfl, rfl, rfl⟩ | ⟨rfl, g1, c1, rfl, HC, HE⟩
    · have HR := hd (H.o.ext HE1.o).rq
      have q := HG.o
      have qr := HR.o.cell
      have qrl := HR.o.lt
      simp only [rqCells] at qr
      rename World => w2
      have HU := hd (Blk.new w2 3 #[.int .i64 3])
      have HEA := hd ((Ext.refl [] w2).alloc (.cells #[.int .i64 3] 3))
      go_wp2_with (
        refine wpList_append_lies _ rfl _ _ 22 rfl w2.heap.size 3 i0 _ 1 8 Tryz.underlying22 hi0 hz0 hz1 hz2 rfl (by decide) (.slice none 0 0) 0 [] rfl ⟨rfl, .inl ⟨rfl, rfl⟩⟩ ⟨w2.heap.size, 0, none⟩ 1 1 [.int .i64 3] rfl rfl ?c1 ?c2 (by omega) ?c3 ?c4 ?c5 _ rfl ?_
        case c1 => exact cell_one_new _ _ _
        case c2 => intro u hu; rw [List.mem_singleton.1 hu]; rfl
        case c3 => unfold maxLen; omega
        case c4 => omega
        case c5 => simp
        intro g8 c8 w8 ho8 hg8 hi8 ha8
        have HO8 := hd ho8
        have HE8 := hd (HEA.o.grown hg8 (fun q hq => by cases hq))
        clear ho8 hg8 hi8)
      go_roundw
      case rel => exact .inr ⟨rfl, g8, c8, rfl, hd (row_cells HO8.o 0 _ rfl), hd (HE1.o.trans HE8.o)⟩
      case measure => simp [intOf]
    · go_wp2_with fail
      go_ret
      exact ⟨g1, c1, rfl, HC.o, HE.o⟩
set_option maxRecDepth 100000 in
theorem equal1_any (a b ca cb : Nat) (x : Int) (w : World) (ha : w.cell? ⟨a, 0, none⟩ = some (.int .i64 x)) (hb : w.cell? ⟨b, 0, none⟩ = some (.int .i64 x)) :
    Calls Tryz.prog 8 #[.slice (some ⟨a, 0, none⟩) 1 ca, .slice (some ⟨b, 0, none⟩) 1 cb] w fun e w' => e = .returned (.bool true) ∧ Ext [] w w' := by
  have hal := World.block_lt_of_cell? w _ ha
  have hbl := World.block_lt_of_cell? w _ hb
  simp only at hal hbl
  have HA := hd ha
  have HB := hd hb
  have hx : (x != x) = false := by simp
  clear ha hb
  go_enter Tryz.func8, Tryz.ntmps8
  go_wp2_with fail
  go_loopw [13] (fun i wr => (i = .int .i64 0 ∨ i = .int .i64 1) ∧ Hd (Ext [] w wr)) (fun i _ => 1 - (intOf i).toNat)
  case atStart => exact ⟨.inl rfl, hd (Ext.refl _ _)⟩
  case round =>
    obtain ⟨hi, HE⟩ := hrel
    rename World => wq
    rcases hi with rfl | rfl
    · go_wp2_with fail
      refine wp_region_rel 8 (JE _) (Ext []) (kinds []) (by kernel_rfl) (by kernel_rfl) JE.less ?_ JE.start ?_
      · repeat (first | exact Stays.nil | refine Stays.cons sFix.stays ?_)
      simp only [List.take_succ_cons, List.take_zero, List.drop_succ_cons, List.drop_zero]
      repeat
        refine relAt_det rfl rfl ?_
        apply Exists.intro
        refine ⟨fun wr nr hJ => ?_, ?_⟩
        · have q1 := (HE.o.trans hJ).held HA.o (by simp); have q2 := (HE.o.trans hJ).held HB.o (by simp); have z1 := Nat.lt_of_lt_of_le hal (HE.o.trans hJ).size; have z2 := Nat.lt_of_lt_of_le hbl (HE.o.trans hJ).size
          clear hJ
          (go_simp; try go_bits)
          first | rfl | exact ⟨rfl, rfl⟩
        simp only [Act.put, List.setIfInBounds_toArray, List.set_cons_succ, List.set_cons_zero]
      refine relAt_nil (fun w2 hJ hF => ?_)
      have HE2 := hd (HE.o.trans hJ)
      clear hF hJ
      go_wp2_with fail
      go_roundw
      case rel => exact ⟨.inr rfl, HE2⟩
      case measure => simp [intOf]
    · go_wp2_with fail
      go_ret
      exact ⟨rfl, HE.o⟩
end Go.Proofs.YtgbjlccgnfcnaaaGreat
