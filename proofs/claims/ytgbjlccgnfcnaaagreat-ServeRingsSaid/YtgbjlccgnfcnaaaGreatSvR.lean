/- Package serve: Submit of the request that serves() makes (the walk). -/
import Derived.Test.YtgbjlccgnfcnaaaGreatSvQ
namespace Go.Proofs.YtgbjlccgnfcnaaaGreat
open Go.RowKit
set_option linter.unusedSimpArgs false
set_option linter.unusedVariables false
attribute [local irreducible] relAt

/-- The request in memory. -/
def rqCells (pv tv hv : Value) (entries : Int) (wk ls : Bool) : Array Value := #[.int .i64 3, .int .i64 9, pv, .int .i64 1, .int .i64 0, tv, .int .i64 0, hv, .int .i64 entries, .bool false, .int .i64 0, .int .i64 0, .bool wk, .bool ls]
/-- Block g is a row of ints that begins with 1. -/
def One1 (w : World) (g : Nat) : Prop := ∃ C : Array Value, Blk w g 3 C ∧ C[0]? = some (.int .i64 1)
theorem One1.cell {w : World} {g : Nat} (h : One1 w g) : w.cell? ⟨g, 0, none⟩ = some (.int .i64 1) := by
  obtain ⟨C, h1, h2⟩ := h
  exact (h1.cell 0).trans h2
theorem One1.ext {S : List Nat} {w w' : World} {g : Nat} (h : One1 w g) (hE : Ext S w w') (hg : g ∉ S) : One1 w' g := by
  obtain ⟨C, h1, h2⟩ := h
  exact ⟨C, h1.ext hE hg, h2⟩
theorem One1.kp {base : Nat} {G : List Nat} {w w' : World} {g : Nat} (h : One1 w g) (hK : Kp base G w w') (hg : g ∉ G) : One1 w' g := by
  obtain ⟨C, h1, h2⟩ := h
  exact ⟨C, hK.blk h1 hg (by decide), h2⟩
theorem TMap.kp {base b : Nat} {G : List Nat} {w w' : World} {f : Int → Option Value} (h : TMap w b f) (hK : Kp base G w w') (hb : b ∉ G) : TMap w' b f := by
  have hlt := h.lt
  obtain ⟨D, ⟨es, clock, h1, h2⟩, h3⟩ := h
  refine ⟨D, ⟨es, clock, (hK.block b hlt hb (fun _ C hC => ?_)).trans h1, h2⟩, h3⟩
  unfold Blk at hC
  rw [h1] at hC
  cases hC
def sCl : Spec := ⟨Nat × Nat, (0, 0), fun u => .slice (some ⟨u.1, 0, none⟩) 1 u.2, fun u w => One1 w u.1 ∧ 1 ≤ u.2⟩
def sBd (pv : Value) : Spec := ⟨Nat × Nat, (0, 0), fun u => .agg (rqCells pv (.slice (some ⟨u.1, 0, none⟩) 1 u.2) (.slice none 0 0) 0 false false), fun u w => One1 w u.1 ∧ 1 ≤ u.2⟩
def sRq (lo : Nat) (pv : Value) : Spec := ⟨Nat, 0, fun r => .pointer (some ⟨r, 0, none⟩), fun r w => lo ≤ r ∧ ∃ u : Nat × Nat, Blk w r 76 (rqCells pv (.slice (some ⟨u.1, 0, none⟩) 1 u.2) (.slice none 0 0) 0 false false) ∧ One1 w u.1 ∧ 1 ≤ u.2⟩
theorem sCl.stays : ∀ y w w', RH [] w w' → sCl.V y w → sCl.V y w' := fun _ _ _ hR h => ⟨h.1.ext hR.1 List.not_mem_nil, h.2⟩
theorem sBd.stays {pv : Value} : ∀ y w w', RH [] w w' → (sBd pv).V y w → (sBd pv).V y w' := fun _ _ _ hR h => ⟨h.1.ext hR.1 List.not_mem_nil, h.2⟩
theorem sRq.stays {lo : Nat} {pv : Value} : ∀ y w w', RH [] w w' → (sRq lo pv).V y w → (sRq lo pv).V y w' := fun _ _ _ hR ⟨h0, u, h1, h2, h3⟩ => ⟨h0, u, h1.ext hR.1 List.not_mem_nil, h2.ext hR.1 List.not_mem_nil, h3⟩
theorem copy1 (b cap : Nat) (w : World) (h : One1 w b) : Calls Tryz.prog 33 #[.slice (some ⟨b, 0, none⟩) 1 cap] w fun e w' => ∃ g c, e = .returned (.slice (some ⟨g, 0, none⟩) 1 c) ∧ One1 w' g ∧ 1 ≤ c ∧ Ext [] w w' ∧ w.heap.size ≤ g := by
  refine (copy_any b 0 cap [1] w (fun k x hx => ?_) (by decide) (by decide)).mono ?_
  · match k, hx with
    | 0, hx => cases hx; exact h.cell
    | k + 1, hx => simp at hx
  · rintro e w' ⟨g, c, rfl, hE, hO, hg, hg2⟩
    obtain ⟨C, hC⟩ := own_blk hO (g := g) rfl
    obtain ⟨A, c', hv, hc, _⟩ := own_form hO
    cases hv
    have h0 := row_cells hO 0 _ rfl
    rw [hC.cell] at h0
    exact ⟨g, _, rfl, ⟨C, hC, h0⟩, hc, hE, hg2⟩
/-- The server, its one request and its one page. -/
structure SubIn (w : World) (base s mb pb r : Nat) (D : Dm) (now rec syn : Int) (lv : Value) (ln : Nat) (pv : Value) (tg tc : Nat) (hv : Value) (entries : Int) (wk ls : Bool) (pgc : Array Value) : Prop where
  sv : SrvIn w base s mb pb D now rec syn lv ln
  mp : TMap w mb (f1 r)
  rq : Blk w r 76 (rqCells pv (.slice (some ⟨tg, 0, none⟩) 1 tc) hv entries wk ls)
  pg : Blk w pb 100 pgc
  tk : One1 w tg
  tc1 : 1 ≤ tc
  lo : base ≤ mb ∧ base ≤ r ∧ base ≤ pb
set_option maxHeartbeats 4000000 in
set_option maxRecDepth 100000 in
theorem submit_any (base s mb pb q c : Nat) (D : Dm) (syn : Int) (lv : Value) (ln : Nat) (pgc : Array Value) (w : World) (h : SrvIn w base s mb pb D 0 0 syn lv ln) (hm : TMap w mb (fun _ => none)) (hp : Blk w pb 100 pgc) (hq : One1 w q) (hln : ln ≤ 700000) (hb : base ≤ w.heap.size) (hlo : base ≤ mb ∧ base ≤ pb) :
    Calls Tryz.prog 14 #[.pointer (some ⟨s, 0, none⟩), .agg (rq0 q c)] w fun e w' => e = .returned (.int .i64 0) ∧ ∃ (r tg tc ln' : Nat) (lv' pv : Value), SubIn w' base s mb pb r D 0 1 syn lv' ln' pv tg tc (.slice none 0 0) 0 false false pgc ∧ ln' ≤ ln + 100 ∧ Kp base [s, mb] w w' := by
  have HACC := hd (fun W hW => acceptable_any base s mb pb q c D syn lv ln W (hW : SrvIn W base s mb pb D 0 0 syn lv ln))
  have H := hd h
  have HM := hd hm
  have HQ := hd hq
  have HP := hd hp
  simp only [rq0] at HACC ⊢
  have HB0 := hd (Blk.new w 44 #[.int .i64 3, .int .i64 9, .slice (some ⟨q, 0, none⟩) 1 c, .int .i64 1, .int .i64 0])
  have HE0 := hd ((Ext.refl [] w).alloc (.cells #[.int .i64 3, .int .i64 9, .slice (some ⟨q, 0, none⟩) 1 c, .int .i64 1, .int .i64 0] 44))
  have q0 := HB0.o.cell
  have q0l := HB0.o.lt
  clear h hm hq hp
  go_enter Tryz.func14, Tryz.ntmps14
  go_wp2_with fail
  refine (HACC.o _ ⟨H.o.srv.ext HE0.o (by simp), H.o.log.ext HE0.o (by simp), H.o.lo⟩ (HM.o.ext HE0.o (by simp)) (HQ.o.ext HE0.o (by simp)).cell).mono ?_
  rintro e w1 ⟨rfl, hE⟩
  have HB1 := hd (HB0.o.ext hE (by simp))
  have HE1 := hd (HE0.o.trans hE)
  have q1 := HB1.o.cell
  have q1l := HB1.o.lt
  clear q0 q0l hE HACC
  go_wp2_with fail
  refine (copy1 q c w1 (HQ.o.ext HE1.o (by simp))).mono ?_
  rintro e w2 ⟨g, gc, rfl, hO1, hgc, hE, hg⟩
  have hB2 := HB1.o.ext hE (by simp)
  have HB2 := hd (hB2.set_' 2 (.slice (some ⟨g, 0, none⟩) 1 gc) #[.int .i64 3, .int .i64 9, .slice (some ⟨g, 0, none⟩) 1 gc, .int .i64 1, .int .i64 0] rfl)
  have q2 := hB2.cell
  have q2l := hB2.lt
  have q2f := hB2.frozen
  have hg9 : g ≠ w.heap.size := by have := HB1.o.lt; omega
  have hX : Ext [w.heap.size] w2 (w2.setCell ⟨w.heap.size, 2, none⟩ (.slice (some ⟨g, 0, none⟩) 1 gc)) := (Ext.refl _ _).setCell (.inl (by simp)) _
  have HE2 := hd (((HE1.o.trans hE).setCell (p := ⟨w.heap.size, 2, none⟩) (.inr (Nat.le_refl _)) (.slice (some ⟨g, 0, none⟩) 1 gc)))
  have HO2 := hd (hO1.ext hX (by simpa using hg9))
  clear q1 q1l hE hB2 hX hO1
  go_wp2_with fail
  clear q2 q2l q2f
  generalize hW2 : World.setCell _ _ _ = W2 at *
  clear hW2
  obtain ⟨b0, b1, b2, b3, b4, b5, b6, c0, c1, c2, c3, c4, c5, c6⟩ := D
  refine wp_region_rel 12 (JH [] _) (RH []) (kinds [(9, sCl), (10, sBd (.slice (some ⟨g, 0, none⟩) 1 gc)), (11, sRq base (.slice (some ⟨g, 0, none⟩) 1 gc))]) (by kernel_rfl) (by kernel_rfl) JH.less ?_ JH.start ?_
  · exact Stays.cons sCl.stays (Stays.cons sBd.stays (Stays.cons sRq.stays Stays.nil))
  simp only [List.take_succ_cons, List.take_zero, List.drop_succ_cons, List.drop_zero]
  repeat
    refine relAt_det rfl rfl ?_
    apply Exists.intro
    refine ⟨fun wr nr hJ => ?_, ?_⟩
    · have qx := H.o.srv.ext (HE2.o.trans hJ.1) (by simp); have qs := qx.cell; have qsl := qx.lt; simp only [svCells] at qs; clear qx; have qb := (HB2.o.ext hJ.1 (by simp)).cell; have qbl := (HB2.o.ext hJ.1 (by simp)).lt
      clear hJ
      (go_simp; try go_bits)
      first | rfl | exact ⟨rfl, rfl⟩
    simp only [Act.put, List.setIfInBounds_toArray, List.set_cons_succ, List.set_cons_zero]
  refine rel_ext sCl rfl rfl ?_ ?_
  · apply Exists.intro
    apply Exists.intro
    refine ⟨fun wr => ?_, fun wr nr hJ _ => ?_⟩
    · go_simp
      first | exact ⟨rfl, rfl⟩ | rfl
    · refine (copy1 g gc wr (HO2.o.ext hJ.1 (by simp))).mono ?_
      rintro e w' ⟨g', c', rfl, h1, h2, h3, h4⟩
      exact ⟨(g', c'), rfl, ⟨h1, h2⟩, h3⟩
  intro (u9 : Nat × Nat)
  simp only [Act.put, List.setIfInBounds_toArray, List.set_cons_succ, List.set_cons_zero]
  refine rel_say (sBd (.slice (some ⟨g, 0, none⟩) 1 gc)) u9 rfl rfl (fun wr nr hJ => ?_) (fun wr nr hJ hf => (get_after hf 9 (by kernel_rfl) : sCl.V u9 wr)) ?_
  · clear hJ
    dsimp only [sBd, sCl, rqCells]
    go_simp
    try first | exact ⟨rfl, rfl⟩ | rfl
  intro (u10 : Nat × Nat)
  simp only [Act.put, List.setIfInBounds_toArray, List.set_cons_succ, List.set_cons_zero]
  refine rel_new (sRq base (.slice (some ⟨g, 0, none⟩) 1 gc)) rfl rfl ?_ ?_
  · intro wr nr hJ hf
    have f10 : (sBd (.slice (some ⟨g, 0, none⟩) 1 gc)).V u10 wr := get_after hf 10 (by kernel_rfl)
    refine ⟨wr.heap.size, .cells (rqCells (.slice (some ⟨g, 0, none⟩) 1 gc) (.slice (some ⟨u10.1, 0, none⟩) 1 u10.2) (.slice none 0 0) 0 false false) 76, ?_, Nat.le_trans (Nat.le_trans hb HE2.o.size) hJ.1.size, u10, Blk.new _ _ _, f10.1.ext ((Ext.refl [] _).alloc _) (by simp), f10.2⟩
    clear f10 hf hJ
    dsimp only [sBd, sRq, rqCells]
    go_simp
    try first | exact ⟨rfl, rfl⟩ | rfl
  intro (r : Nat)
  simp only [Act.put, List.setIfInBounds_toArray, List.set_cons_succ, List.set_cons_zero]
  dsimp only [sRq]
  refine relAt_nil (fun w3 hJ hF => ?_)
  have f11 : (sRq base (.slice (some ⟨g, 0, none⟩) 1 gc)).V r w3 := hF 11
  obtain ⟨hrb, ⟨tg, tc⟩, hrq, htk, htc⟩ := f11
  have HRQ := hd hrq
  have HTK := hd htk
  have HE3 := hd (HE2.o.trans hJ.1)
  have HB3 := hd (HB2.o.ext hJ.1 (by simp))
  have HM3 := hd (HM.o.ext HE3.o (by simp))
  have HG3 := hd (HO2.o.ext hJ.1 (by simp))
  clear hF hJ hrq htk
  dsimp only at htc
  obtain ⟨i0, hi0, hz0, hz1, hz2⟩ := intInfo
  go_upto_region 6 with (
    refine wpList_tmap_store _ rfl _ _ _ rfl mb (fun _ => none) rfl HM3.o 3 (.pointer (some ⟨r, 0, none⟩)) rfl rfl (by omega) ?_
    intro w4 h4 hE4
    have HM4 := hd h4
    have HE4 := hd hE4
    clear h4 hE4)
  have hf1 : setZ (fun _ => none) 3 (some (.pointer (some ⟨r, 0, none⟩))) = f1 r := by
    funext j
    unfold setZ f1
    rfl
  rw [hf1] at HM4
  have hxm : w.heap.size ≠ mb := fun h => HM3.o.apart HB3.o h.symm
  have hrm : r ≠ mb := fun h => HM3.o.apart HRQ.o h.symm
  have htm : tg ≠ mb := fun h => by obtain ⟨C, hC, _⟩ := HTK.o; exact HM3.o.apart hC h.symm
  have hgm : g ≠ mb := fun h => by obtain ⟨C, hC, _⟩ := HO2.o; exact (HM.o.ext HE2.o (by simp)).apart hC h.symm
  have hsm : s ≠ mb := fun h => HM.o.apart H.o.srv h.symm
  have hpm : pb ≠ mb := fun h => HM.o.apart HP.o h.symm
  have HB4 := hd (HB3.o.ext HE4.o (by simpa using hxm))
  have HRQ4 := hd (HRQ.o.ext HE4.o (by simpa using hrm))
  have HTK4 := hd (HTK.o.ext HE4.o (by simpa using htm))
  have HX4 := hd (HE3.o.nil.trans HE4.o)
  have HS4 := hd (show SrvIn w4 base s mb pb ⟨b0, b1, b2, b3, b4, b5, b6, c0, c1, c2, c3, c4, c5, c6⟩ 0 0 syn lv ln from ⟨H.o.srv.ext HX4.o (by simpa using hsm), H.o.log.ext HX4.o (fun k hk hmk => by
    obtain ⟨xs, h1, _⟩ := H.o.log
    obtain ⟨C, hC⟩ := own_blk h1 hk
    simp only [List.mem_singleton] at hmk
    subst hmk
    exact HM.o.apart hC rfl), H.o.lo⟩)
  have HP4 := hd (HP.o.ext HX4.o (by simpa using hpm))
  have qb := HB4.o.cell
  have qbl := HB4.o.lt
  have hz4 := HX4.o.size
  clear hf1
  have HG4 := hd (HG3.o.ext HE4.o (by simpa using hgm))
  have HU := hd (Blk.new w4 3 #[.int .i64 1, .int .i64 3, .int .i64 9, .int .i64 1, .int .i64 0, .int .i64 1])
  have HEA := hd ((Ext.refl [] w4).alloc (.cells #[.int .i64 1, .int .i64 3, .int .i64 9, .int .i64 1, .int .i64 0, .int .i64 1] 3))
  have HO6 := hd (show (w4.alloc (.cells #[.int .i64 1, .int .i64 3, .int .i64 9, .int .i64 1, .int .i64 0, .int .i64 1] 3)).ownsRow w4.heap.size 3 1 (.slice (some ⟨w4.heap.size, 0, none⟩) 6 6) 6 [.int .i64 1, .int .i64 3, .int .i64 9, .int .i64 1, .int .i64 0, .int .i64 1] from ⟨rfl, .inr ⟨_, 6, _, rfl, Nat.le_refl _, HU.o, Nat.le_refl _, by unfold maxLen; omega, rfl, rfl⟩⟩)
  have HNW := hd ((HG4.o.ext HEA.o (by simp)).cell)
  go_wp2_with (
    refine wpList_append_lies _ rfl _ _ 22 rfl w4.heap.size 3 i0 _ 1 8 Tryz.underlying22 hi0 hz0 hz1 hz2 rfl (by decide) _ 6 _ rfl HO6.o ⟨g, 0, none⟩ 1 gc [.int .i64 1] rfl rfl ?c1 ?c2 (by omega) ?c3 ?c4 ?c5 _ rfl ?_
    case c1 =>
      intro j u hj
      match j, hj with
      | 0, hj => cases hj; exact HNW.o
      | j + 1, hj => simp at hj
    case c2 => intro u hu; rw [List.mem_singleton.1 hu]; rfl
    case c3 => unfold maxLen; omega
    case c4 => omega
    case c5 => simp
    intro g8 c8 w8 ho8 hg8 hi8 ha8
    have HO8 := hd ho8
    have HE8 := hd (HEA.o.grown hg8 (fun q hq => .inr (own_base HO6.o q hq)))
    clear ho8 hg8 hi8)
  have hc8 : 7 ≤ c8 := by
    obtain ⟨A, c', hv, hc, _⟩ := own_form HO8.o
    cases hv
    exact hc
  have hz8 := HE8.o.size
  refine (record_any base s mb pb g8 7 c8 ⟨b0, b1, b2, b3, b4, b5, b6, c0, c1, c2, c3, c4, c5, c6⟩ 0 0 syn lv ln w8 ⟨HS4.o.srv.ext HE8.o (by simp), HS4.o.log.ext HE8.o (by simp), HS4.o.lo⟩ (fun k hk => ?_) (by omega) (by omega) hc8 (by omega) (by omega) (by omega)).mono ?_
  · match k, hk with
    | 0, _ => exact ⟨_, row_cells HO8.o 0 _ rfl⟩
    | 1, _ => exact ⟨_, row_cells HO8.o 1 _ rfl⟩
    | 2, _ => exact ⟨_, row_cells HO8.o 2 _ rfl⟩
    | 3, _ => exact ⟨_, row_cells HO8.o 3 _ rfl⟩
    | 4, _ => exact ⟨_, row_cells HO8.o 4 _ rfl⟩
    | 5, _ => exact ⟨_, row_cells HO8.o 5 _ rfl⟩
    | 6, _ => exact ⟨_, row_cells HO8.o 6 _ rfl⟩
  rintro e w9 ⟨rfl, lv', hS9, hK9⟩
  have HS9 := hd hS9
  have HK9 := hd hK9
  have hms : mb ≠ s := fun h => hsm h.symm
  have hrs : r ≠ s := fun h => absurd (Blk.type HRQ4.o (h ▸ HS4.o.srv)) (by decide)
  have hts : tg ≠ s := fun h => by obtain ⟨C, hC, _⟩ := HTK4.o; exact absurd (Blk.type hC (h ▸ HS4.o.srv)) (by decide)
  have hps : pb ≠ s := fun h => by have h1 := HP4.o; rw [h] at h1; exact absurd (Blk.type h1 HS4.o.srv) (by decide)
  have HM9 := hd ((HM4.o.ext HE8.o (by simp)).kp hK9 (by simpa using hms))
  have HRQ9 := hd (hK9.blk (HRQ4.o.ext HE8.o (by simp)) (by simpa using hrs) (by decide))
  have HTK9 := hd ((HTK4.o.ext HE8.o (by simp)).kp hK9 (by simpa using hts))
  have HP9 := hd (hK9.blk (HP4.o.ext HE8.o (by simp)) (by simpa using hps) (by decide))
  clear hS9 hK9
  go_wp2_with fail
  go_ret
  refine ⟨rfl, r, tg, tc, _, lv', .slice (some ⟨g, 0, none⟩) 1 gc, ⟨HS9.o, HM9.o, HRQ9.o, HP9.o, HTK9.o, htc, hlo.1, hrb, hlo.2⟩, by omega, ?_⟩
  exact (Kp.of_ext (HX4.o.trans HE8.o.nil) (by simp)).trans (HK9.o.mono (by simp))
end Go.Proofs.YtgbjlccgnfcnaaaGreat
