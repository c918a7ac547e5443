/- started: the small machine's chip before its first instruction. -/
import Derived.Test.YtedabpldigcffaaChipC
namespace Go.Proofs.Ytedabpldigcffaa
open Go.RowKit
set_option linter.unusedSimpArgs false
set_option linter.unusedVariables false

theorem own_low {w : World} {b b' n size : Nat} {e : TypeId} {v : Value} {xs : List Value} (h : w.ownsRow b e size v n xs) (hb : b' ≤ b) : w.ownsRow b' e size v n xs := by
  refine ⟨h.1, ?_⟩
  rcases h.2 with h | ⟨g, c, cur, h1, h2, h3⟩
  · exact .inl h
  · exact .inr ⟨g, c, cur, h1, Nat.le_trans hb h2, h3⟩
theorem Shape.set {a w : World} (h : Shape a w) (b i : Nat) (v : Value) : Shape a (w.setCell ⟨b, i, none⟩ v) := h.trans fun k cur t hk => by
  by_cases hb : k = b
  · subst hb
    exact ⟨cur.setIfInBounds i v, by simp [World.setCell, Array.getElem?_modify, hk], by simp⟩
  · exact ⟨cur, (Below.heap_setCell w ⟨b, i, none⟩ v k hb).trans hk, rfl⟩
def sOne (T : List Nat) : Spec := ⟨Nat, 0, fun b => .slice (some ⟨b, 0, none⟩) 1 1, fun b w => b ∉ T ∧ ∃ u, w.cell? ⟨b, 0, none⟩ = some u ∧ u.oneCell' = true⟩
def sRow (base : Nat) (e : TypeId) (n : Nat) : Spec := ⟨Nat × Nat, (0, 0), fun u => .slice (some ⟨u.1, 0, none⟩) (n + 1) u.2, fun u w => Row w base e (.slice (some ⟨u.1, 0, none⟩) (n + 1) u.2) (n + 1)⟩
theorem sOne.stays {T : List Nat} : ∀ y w w', RH T w w' → (sOne T).V y w → (sOne T).V y w' := fun _ _ _ hR ⟨h1, u, h2, h3⟩ => ⟨h1, u, hR.1.held h2 h1, h3⟩
theorem sRow.stays {T : List Nat} {base n : Nat} {e : TypeId} : ∀ y w w', RH T w w' → (sRow base e n).V y w → (sRow base e n).V y w' := fun _ _ _ hR h => Row.shape h hR.2
/-- The blocks of two rows. -/
def two (v u : Value) : List Nat := v.ownBlock.toList ++ u.ownBlock.toList
theorem two_ge {w : World} {base m n : Nat} {e e2 : TypeId} {v u : Value} (hv : Row w base e v m) (hu : Row w base e2 u n) : ∀ k ∈ two v u, base ≤ k := by
  intro k hk
  obtain ⟨_, h1⟩ := hv
  obtain ⟨_, h2⟩ := hu
  rcases List.mem_append.1 hk with hk | hk
  · exact (h1.lt k (by simpa using hk)).1
  · exact (h2.lt k (by simpa using hk)).1

theorem two_lt {w : World} {base m n : Nat} {e e2 : TypeId} {v u : Value} (hv : Row w base e v m) (hu : Row w base e2 u n) : ∀ k ∈ two v u, k < w.heap.size := by
  intro k hk
  obtain ⟨_, h1⟩ := hv
  obtain ⟨_, h2⟩ := hu
  rcases List.mem_append.1 hk with hk | hk
  · exact (h1.lt k (by simpa using hk)).2
  · exact (h2.lt k (by simpa using hk)).2
theorem mem_two_l {v u : Value} {g : Nat} (h : v.ownBlock = some g) : g ∈ two v u := by simp [two, h]
theorem mem_two_r {v u : Value} {g : Nat} (h : u.ownBlock = some g) : g ∈ two v u := by simp [two, h]
/-- The making of a bank: where it stands; the store of the banks is operation 22. -/
structure JB (u : CU) (n mn b : Nat) (vb vs : Value) (k base : Nat) (wq : World) (r : Nat → Bool) (w : World) : Prop where
  ext : Ext (b :: two vb vs) wq w
  shape : Shape wq w
  blk : ∃ v8, Blk w b 117 (u.cells n mn v8 vs 0 0 0 false) ∧ (r 22 = true → v8 = vb) ∧ (r 22 = false → Row w base 22 v8 (k + 1))
section
variable {u : CU} {n mn b : Nat} {vb vs : Value} {k base : Nat} {wq w w' : World} {r : Nat → Bool}
theorem off_ne {r : Nat → Bool} {i j : Nat} (h : i ≠ j) : off r i j = r j := by
  have : (j == i) = false := by simpa using fun e => h e.symm
  simp [off, this]
theorem JB.less (h : JB u n mn b vb vs k base wq r w) (i : Nat) (hi : i ≠ 22) : JB u n mn b vb vs k base wq (off r i) w := by
  obtain ⟨v8, h1, h2, h3⟩ := h.blk
  exact ⟨h.ext, h.shape, v8, h1, by rw [off_ne hi]; exact h2, by rw [off_ne hi]; exact h3⟩
theorem JB.alloc (h : JB u n mn b vb vs k base wq r w) (o : Obj) : JB u n mn b vb vs k base wq r (w.alloc o) := by
  obtain ⟨v8, h1, h2, h3⟩ := h.blk
  exact ⟨h.ext.alloc _, h.shape.alloc _, v8, h1.alloc _, h2, fun hr => (h3 hr).shape ((Shape.refl _).alloc _)⟩
theorem JB.grown (h : JB u n mn b vb vs k base wq r w) {row : Option Nat} (hR : RH (b :: two vb vs) w w') (hg : w.grownBy w' row) (hb : row ≠ some b) : JB u n mn b vb vs k base wq r w' := by
  obtain ⟨v8, h1, h2, h3⟩ := h.blk
  exact ⟨h.ext.trans hR.1, h.shape.trans hR.2, v8, h1.grown hg hb, h2, fun hr => (h3 hr).shape hR.2⟩
end

set_option maxHeartbeats 4000000 in
set_option maxRecDepth 100000 in
theorem started_small (g1 c1 g3 c3 : Nat) (xs : List Ins) (main : List Int) (w : World) (h : RdC w (some ⟨g1, 0, none⟩) xs) (h0 : 0 < xs.length) (hl : xs.length ≤ 100000) (hf : flat xs)
    (hm : NumsAt w g3 0 main) (hm0 : 0 < main.length) (hml : main.length ≤ 10000000) :
    Calls Try.prog 104 #[.agg #[.int .i64 8, .int .i64 2, .int .i64 256, .int .i64 2, .int .i64 1], .slice (some ⟨g1, 0, none⟩) xs.length c1, .slice (some ⟨g3, 0, none⟩) main.length c3] w (Started xs main w) := by
  have HH := hd h
  have HF := hd hf
  have HM := hd hm
  clear h hf hm
  generalize hSt : Started xs main w = Q at *
  have hm1 : madeCells #[.pointer none] 1 = #[.pointer none] := by kernel_rfl
  have hmq : ∀ W : World, (Instr.makeSlice 112 (.int .i64 1) (.int .i64 1)).run Try.prog W = .ok (.slice (some ⟨W.heap.size, 0, none⟩) 1 1) (W.alloc (.cells #[.pointer none] 157)) := fun W => by
    rw [← hm1]
    exact run_make_row' 112 157 (.pointer none) 8 Try.underlying112 (by kernel_rfl) rfl .i64 .i64 1 (by omega) (by omega) W
  have hmi : ∀ W : World, (Instr.makeSlice 22 (.int .i64 256) (.int .i64 256)).run Try.prog W = .ok (.slice (some ⟨W.heap.size, 0, none⟩) 256 256) (W.alloc (.cells (madeCells #[.int .i64 0] 256) 3)) := fun W =>
    run_make_row' 22 3 (.int .i64 0) 8 Try.underlying22 (by kernel_rfl) rfl .i64 .i64 256 (by omega) (by omega) W
  have hmb : ∀ W : World, (Instr.makeSlice 164 (.int .i64 256) (.int .i64 256)).run Try.prog W = .ok (.slice (some ⟨W.heap.size, 0, none⟩) 256 256) (W.alloc (.cells (madeCells #[.bool false] 256) 4)) := fun W =>
    run_make_row' 164 4 (.bool false) 1 Try.underlying164 (by kernel_rfl) rfl .i64 .i64 256 (by omega) (by omega) W
  go_enter Try.func104, Try.ntmps104
  go_wp2_with fail
  refine wp_region_rel 12 (JH [] _) (RH []) (kinds [(2, sCode xs), (4, sMk xs.length), (6, sMain w.heap.size main), (9, sQueue), (10, sAgg w.heap.size xs main), (11, sChip w.heap.size xs main)]) (by kernel_rfl) (by kernel_rfl) JH.less ?_ JH.start ?_
  · exact Stays.cons sCode.stays (Stays.cons sMk.stays (Stays.cons sMain.stays (Stays.cons sQueue.stays (Stays.cons sAgg.stays (Stays.cons sChip.stays Stays.nil)))))
  simp only [List.take_succ_cons, List.take_zero, List.drop_succ_cons, List.drop_zero]
  repeat
    refine relAt_det rfl rfl ?_
    apply Exists.intro
    refine ⟨fun wr nr hJ => ?_, ?_⟩
    · have q1 := ((Blk.new w 40 #[.int .i64 8, .int .i64 2, .int .i64 256, .int .i64 2, .int .i64 1]).ext hJ.1 (by simp)).cell
      clear hJ
      (go_simp; try go_bits)
      first | rfl | exact ⟨rfl, rfl⟩
    simp only [Act.put, List.setIfInBounds_toArray, List.set_cons_succ, List.set_cons_zero]
  refine rel_ext (sCode xs) rfl rfl ?_ ?_
  · apply Exists.intro
    apply Exists.intro
    refine ⟨fun wr => ?_, fun wr nr hJ _ => ?_⟩
    · go_simp
      first | exact ⟨rfl, rfl⟩ | rfl
    · refine (cloneIns_any g1 0 _ xs wr (HH.out.ext (((Ext.refl [] w).alloc _).trans hJ.1) (by simp)) h0 hl).mono ?_
      rintro e w' ⟨g, c, he, hE, hR, hb, hlt⟩
      exact ⟨(g, c), he, ⟨hR, hlt⟩, hE⟩
  intro (u2 : Nat × Nat)
  simp only [Act.put, List.setIfInBounds_toArray, List.set_cons_succ, List.set_cons_zero]
  dsimp only [sCode]
  repeat
    refine relAt_det rfl rfl ?_
    apply Exists.intro
    refine ⟨fun wr nr hJ => ?_, ?_⟩
    · skip
      clear hJ
      (go_simp; try go_bits)
      first | rfl | exact ⟨rfl, rfl⟩
    simp only [Act.put, List.setIfInBounds_toArray, List.set_cons_succ, List.set_cons_zero]
  refine rel_ext (sMk xs.length) rfl rfl ?_ ?_
  · apply Exists.intro
    apply Exists.intro
    refine ⟨fun wr => ?_, fun wr nr hJ _ => ?_⟩
    · go_simp
      first | exact ⟨rfl, rfl⟩ | rfl
    · refine (loopEnds_flat _ _ xs wr (HH.out.ext (((Ext.refl [] w).alloc _).trans hJ.1) (by simp)) hl HF.out).mono ?_
      rintro e w' ⟨g, he, hE⟩
      exact ⟨g, he, trivial, hE⟩
  intro (b2 : Nat)
  simp only [Act.put, List.setIfInBounds_toArray, List.set_cons_succ, List.set_cons_zero]
  dsimp only [sMk]
  repeat
    refine relAt_det rfl rfl ?_
    apply Exists.intro
    refine ⟨fun wr nr hJ => ?_, ?_⟩
    · skip
      clear hJ
      (go_simp; try go_bits)
      first | rfl | exact ⟨rfl, rfl⟩
    simp only [Act.put, List.setIfInBounds_toArray, List.set_cons_succ, List.set_cons_zero]
  refine rel_ext (sMain w.heap.size main) rfl rfl ?_ ?_
  · apply Exists.intro
    apply Exists.intro
    refine ⟨fun wr => ?_, fun wr nr hJ _ => ?_⟩
    · go_simp
      first | exact ⟨rfl, rfl⟩ | rfl
    · refine (cloneInt_any g3 0 _ main wr (HM.out.ext (((Ext.refl [] w).alloc _).trans hJ.1) (by simp)) hm0 hml).mono ?_
      rintro e w' ⟨g, c, he, hE, ho⟩
      exact ⟨(g, c), he, own_low ho (Nat.le_trans (by simp) hJ.1.size), hE⟩
  intro (u6 : Nat × Nat)
  simp only [Act.put, List.setIfInBounds_toArray, List.set_cons_succ, List.set_cons_zero]
  dsimp only [sMain]
  repeat
    refine relAt_det rfl rfl ?_
    apply Exists.intro
    refine ⟨fun wr nr hJ => ?_, ?_⟩
    · have q1 := ((Blk.new w 40 #[.int .i64 8, .int .i64 2, .int .i64 256, .int .i64 2, .int .i64 1]).ext hJ.1 (by simp)).cell
      clear hJ
      (go_simp; try go_bits)
      first | rfl | exact ⟨rfl, rfl⟩
    simp only [Act.put, List.setIfInBounds_toArray, List.set_cons_succ, List.set_cons_zero]
  refine rel_new sQueue rfl rfl ?_ ?_
  · intro wr nr hJ _
    refine ⟨wr.heap.size, .cells #[.pointer none] 157, ?_, Blk.new _ _ _⟩
    go_simp
    rfl
  intro (b9 : Nat)
  simp only [Act.put, List.setIfInBounds_toArray, List.set_cons_succ, List.set_cons_zero]
  dsimp only [sQueue]
  refine rel_say (sAgg w.heap.size xs main) ⟨u2.1, u2.2, b2, u6.1, u6.2, b9⟩ rfl rfl ?_ ?_ ?_
  · intro wr nr hJ
    go_simp
    first | rfl | exact ⟨rfl, rfl⟩ | trace_state
  · intro wr nr hJ hf
    have f2 : (sCode xs).V u2 wr := get_after hf 2 (by kernel_rfl)
    have f6 : (sMain w.heap.size main).V u6 wr := get_after hf 6 (by kernel_rfl)
    have f9 : sQueue.V b9 wr := get_after hf 9 (by kernel_rfl)
    exact ⟨f2.1, f2.2, f6, f9⟩
  intro (u10 : CU)
  simp only [Act.put, List.setIfInBounds_toArray, List.set_cons_succ, List.set_cons_zero]
  dsimp only [sAgg]
  refine rel_new (sChip w.heap.size xs main) rfl rfl ?_ ?_
  · intro wr nr hJ hf
    have f10 : CF w.heap.size xs main u10 wr := get_after hf 10 (by kernel_rfl)
    refine ⟨wr.heap.size, .cells (u10.cells xs.length main.length (.slice none 0 0) (.slice none 0 0) 0 0 0 false) 117, ?_, u10, f10.ext ((Ext.refl [] _).alloc _) (by simp) (by simp) (by simp), Blk.new _ _ _, f10.codeLt, ?_, f10.queue.lt⟩
    · go_simp
      first | rfl | exact ⟨rfl, rfl⟩ | trace_state
    · exact (f10.main.form hm0).elim fun g hg => by
        obtain ⟨c, he, _, hlt⟩ := hg
        cases he
        exact hlt
  intro (b11 : Nat)
  simp only [Act.put, List.setIfInBounds_toArray, List.set_cons_succ, List.set_cons_zero]
  dsimp only [sChip]
  refine relAt_nil (fun w2 hJ hF => ?_)
  have H11 : Made w.heap.size xs main b11 w2 := hF 11
  clear hF
  obtain ⟨u, hCF, hBk, hg1, hg3, hb4⟩ := H11
  have HCF := hd hCF
  have HBK := hd hBk
  have HE2 := hd (((Ext.refl [] w).alloc _).trans hJ.1)
  have hbw : w.heap.size < b11 := by
    obtain ⟨g, c, he, hge, _⟩ := hCF.main.form hm0
    cases he
    omega
  have HMA := hd ((Blk.new w 40 #[.int .i64 8, .int .i64 2, .int .i64 256, .int .i64 2, .int .i64 1]).ext hJ.1 (by simp))
  have hmc := HMA.out.cell
  have hml := HMA.out.lt
  have hbl := hBk.lt
  clear hJ hCF hBk hmq
  go_wp2_with fail
  clear hmc hml
  go_loopw [22] (fun i wr => ∃ (k : Nat) (vb vs : Value), i = .int .i64 k ∧ k ≤ 2 ∧ Hd (Ext [b11] w2 wr ∧ Blk wr b11 117 (u.cells xs.length main.length vb vs 0 0 0 false) ∧ Row wr w2.heap.size 22 vb k ∧ Row wr w2.heap.size 164 vs k)) (fun i _ => (2 - intOf i).toNat)
  case atStart => exact ⟨0, _, _, rfl, by omega, hd ⟨Ext.refl _ _, HBK.out, Row.nil _ _ _, Row.nil _ _ _⟩⟩
  case round =>
    obtain ⟨k, vb, vs, rfl, hk, hI⟩ := hrel
    have HM2 := hd (HMA.out.ext hI.out.1 (by simp; omega))
    have hml := HM2.out.lt
    have hbl2 := hI.out.2.1.lt
    by_cases hlt : k < 2
    · rename World => wq
      have HT := hd (two_ge hI.out.2.2.1 hI.out.2.2.2)
      have hbT : b11 ∉ two vb vs := fun h => by have := HT.out _ h; omega
      have hmT : w.heap.size ∉ two vb vs := fun h => by have := HT.out _ h; omega
      have HBT := hd hbT
      have HMT := hd hmT
      clear hbT hmT
      go_wp2_with fail
      refine wp_region_relS 23 (JB u xs.length main.length b11 vb vs k w2.heap.size wq) (RH (b11 :: two vb vs)) (kinds [(8, sMk 256), (9, sOne (b11 :: two vb vs)), (10, sRow w2.heap.size 22 k), (17, sMk 256), (18, sOne (b11 :: two vb vs)), (19, sRow w2.heap.size 164 k), (22, ⟨Unit, (), fun _ => undef, fun _ _ => True⟩)]) (by kernel_rfl) (by kernel_rfl) ?_ ?_ ?_ ?_
      · intro i r w hi _ hJ
        refine hJ.less i (fun e => ?_)
        subst e
        rcases hi with hi | ⟨oi, hoi, hg⟩
        · cases hi
        · cases hoi; exact hg rfl
      · exact Stays.cons sMk.stays (Stays.cons sOne.stays (Stays.cons sRow.stays (Stays.cons sMk.stays (Stays.cons sOne.stays (Stays.cons sRow.stays (Stays.cons (fun _ _ _ _ h => h) Stays.nil))))))
      · exact ⟨(Ext.refl _ _).drew, (Shape.refl _).drew, vb, hI.out.2.1, fun _ => rfl, fun h => by cases h⟩
      simp only [List.take_succ_cons, List.take_zero, List.drop_succ_cons, List.drop_zero]
      have HTL := hd (two_lt hI.out.2.2.1 hI.out.2.2.2)
      have hmt2 : w.heap.size ∉ b11 :: two vb vs := fun h => by
        rcases List.mem_cons.1 h with h | h
        · omega
        · exact HMT.out h
      have HMT2 := hd hmt2
      clear hmt2
      repeat
        refine relAt_detS rfl rfl ?_
        apply Exists.intro
        refine ⟨fun wr nr hg hJ => ?_, ?_⟩
        · skip
          clear hJ
          (go_simp; try go_bits)
          first | rfl | exact ⟨rfl, rfl⟩
        simp only [Act.put, List.setIfInBounds_toArray, List.set_cons_succ, List.set_cons_zero]
      refine relAt_detS rfl rfl ?_
      apply Exists.intro
      refine ⟨fun wr nr hg hJ => ?_, ?_⟩
      · obtain ⟨_, _, v8, hB, hv, _⟩ := hJ
        have q8 : wr.cell? ⟨b11, 8, none⟩ = some vb := by
          rw [← hv (hg.later 22 (by kernel_rfl))]
          exact (hB.cell 8).trans rfl
        have hbl := hB.lt
        clear hg hB hv
        (go_simp; try go_bits)
        first | rfl | exact ⟨rfl, rfl⟩
      simp only [Act.put, List.setIfInBounds_toArray, List.set_cons_succ, List.set_cons_zero]
      repeat
        refine relAt_detS rfl rfl ?_
        apply Exists.intro
        refine ⟨fun wr nr hg hJ => ?_, ?_⟩
        · have hx := HM2.out.ext hJ.ext HMT2.out; have q2 := hx.cell; have ql := hx.lt; clear hx
          clear hJ
          (go_simp; try go_bits)
          first | rfl | exact ⟨rfl, rfl⟩
        simp only [Act.put, List.setIfInBounds_toArray, List.set_cons_succ, List.set_cons_zero]
      refine rel_newS (sMk 256) rfl rfl (fun w ob r hg hJ => (hJ.less _ (by decide)).alloc ob) ?_ ?_
      · intro wr nr hg hJ hf
        refine ⟨wr.heap.size, .cells (madeCells #[.int .i64 0] 256) 3, ?_, trivial⟩
        go_simp
        rfl
      intro (b8 : Nat)
      simp only [Act.put, List.setIfInBounds_toArray, List.set_cons_succ, List.set_cons_zero]
      dsimp only [sMk]
      refine rel_newS (sOne (b11 :: two vb vs)) rfl rfl (fun w ob r hg hJ => (hJ.less _ (by decide)).alloc ob) ?_ ?_
      · intro wr nr hg hJ hf
        refine ⟨wr.heap.size, .cells #[.slice (some ⟨b8, 0, none⟩) 256 256] 22, ?_, ?_, _, (Blk.new _ _ _).cell 0, rfl⟩
        · go_simp
          rfl
        · intro hm
          rcases List.mem_cons.1 hm with hm | hm
          · obtain ⟨_, _, v8, hB, _⟩ := hJ
            have := hB.lt
            omega
          · have h1 := HTL.out _ hm
            have h2 := hJ.ext.size
            omega
      intro (b9 : Nat)
      simp only [Act.put, List.setIfInBounds_toArray, List.set_cons_succ, List.set_cons_zero]
      dsimp only [sOne]
      obtain ⟨i9, hi9, hz9a, hz9b, hz9c⟩ := info_parts (show ((Try.prog).info? 22).map (fun i => (i.zero, i.size, i.bytes)) = some (some (.slice none 0 0), 1, 24) by kernel_rfl)
      refine rel_appS 9 b9 107 w2.heap.size 22 i9 _ 24 vb k 1 _ _ _ (sOne (b11 :: two vb vs)).V rfl ?_ rfl rfl rfl (by kernel_rfl) hi9 hz9a hz9b hz9c rfl rfl rfl ?_ ?_ (by kernel_rfl) rfl (fun _ h => h.2) ?_ ?_ ?_ ?_
      · exact fun w w' r hg hJ hR hgr => (hJ.less _ (by decide)).grown hR hgr (fun e => HBT.out (mem_two_l e))
      · exact fun w r hg hJ => (hI.out.2.2.1).shape hJ.shape
      · exact fun g hg => List.mem_cons_of_mem _ (mem_two_l hg)
      · unfold maxLen; omega
      · omega
      · exact fun w r hJ => Nat.le_trans hI.out.1.size hJ.ext.size
      intro u10
      simp only [Act.put, List.setIfInBounds_toArray, List.set_cons_succ, List.set_cons_zero]
      repeat
        refine relAt_detS rfl rfl ?_
        apply Exists.intro
        refine ⟨fun wr nr hg hJ => ?_, ?_⟩
        · obtain ⟨v8, hB, _⟩ := hJ.blk; have q9 : wr.cell? ⟨b11, 9, none⟩ = some vs := (hB.cell 9).trans rfl; have hbl := hB.lt; clear hB
          clear hJ
          (go_simp; try go_bits)
          first | rfl | exact ⟨rfl, rfl⟩
        simp only [Act.put, List.setIfInBounds_toArray, List.set_cons_succ, List.set_cons_zero]
      repeat
        refine relAt_detS rfl rfl ?_
        apply Exists.intro
        refine ⟨fun wr nr hg hJ => ?_, ?_⟩
        · skip
          clear hJ
          (go_simp; try go_bits)
          first | rfl | exact ⟨rfl, rfl⟩
        simp only [Act.put, List.setIfInBounds_toArray, List.set_cons_succ, List.set_cons_zero]
      repeat
        refine relAt_detS rfl rfl ?_
        apply Exists.intro
        refine ⟨fun wr nr hg hJ => ?_, ?_⟩
        · have hx := HM2.out.ext hJ.ext HMT2.out; have q2 := hx.cell; have ql := hx.lt; clear hx
          clear hJ
          (go_simp; try go_bits)
          first | rfl | exact ⟨rfl, rfl⟩
        simp only [Act.put, List.setIfInBounds_toArray, List.set_cons_succ, List.set_cons_zero]
      refine rel_newS (sMk 256) rfl rfl (fun w ob r hg hJ => (hJ.less _ (by decide)).alloc ob) ?_ ?_
      · intro wr nr hg hJ hf
        refine ⟨wr.heap.size, .cells (madeCells #[.bool false] 256) 4, ?_, trivial⟩
        go_simp
        rfl
      intro (b17 : Nat)
      simp only [Act.put, List.setIfInBounds_toArray, List.set_cons_succ, List.set_cons_zero]
      dsimp only [sMk]
      refine rel_newS (sOne (b11 :: two vb vs)) rfl rfl (fun w ob r hg hJ => (hJ.less _ (by decide)).alloc ob) ?_ ?_
      · intro wr nr hg hJ hf
        refine ⟨wr.heap.size, .cells #[.slice (some ⟨b17, 0, none⟩) 256 256] 164, ?_, ?_, _, (Blk.new _ _ _).cell 0, rfl⟩
        · go_simp
          rfl
        · intro hm
          rcases List.mem_cons.1 hm with hm | hm
          · obtain ⟨_, _, v8, hB, _⟩ := hJ
            have := hB.lt
            omega
          · have h1 := HTL.out _ hm
            have h2 := hJ.ext.size
            omega
      intro (b18 : Nat)
      simp only [Act.put, List.setIfInBounds_toArray, List.set_cons_succ, List.set_cons_zero]
      dsimp only [sOne]
      obtain ⟨i18, hi18, hz18a, hz18b, hz18c⟩ := info_parts (show ((Try.prog).info? 164).map (fun i => (i.zero, i.size, i.bytes)) = some (some (.slice none 0 0), 1, 24) by kernel_rfl)
      refine rel_appS 18 b18 108 w2.heap.size 164 i18 _ 24 vs k 1 _ _ _ (sOne (b11 :: two vb vs)).V rfl ?_ rfl rfl rfl (by kernel_rfl) hi18 hz18a hz18b hz18c rfl rfl rfl ?_ ?_ (by kernel_rfl) rfl (fun _ h => h.2) ?_ ?_ ?_ ?_
      · exact fun w w' r hg hJ hR hgr => (hJ.less _ (by decide)).grown hR hgr (fun e => HBT.out (mem_two_r e))
      · exact fun w r hg hJ => (hI.out.2.2.2).shape hJ.shape
      · exact fun g hg => List.mem_cons_of_mem _ (mem_two_r hg)
      · unfold maxLen; omega
      · omega
      · exact fun w r hJ => Nat.le_trans hI.out.1.size hJ.ext.size
      intro u19
      simp only [Act.put, List.setIfInBounds_toArray, List.set_cons_succ, List.set_cons_zero]
      repeat
        refine relAt_detS rfl rfl ?_
        apply Exists.intro
        refine ⟨fun wr nr hg hJ => ?_, ?_⟩
        · skip
          clear hJ
          (go_simp; try go_bits)
          first | rfl | exact ⟨rfl, rfl⟩
        simp only [Act.put, List.setIfInBounds_toArray, List.set_cons_succ, List.set_cons_zero]
      refine relAt_storeS rfl rfl ?_ ?_
      · intro wr nr hg hJ hf
        have f10 : Row wr w2.heap.size 22 (.slice (some ⟨u10.1, 0, none⟩) (k + 1) u10.2) (k + 1) := get_after hf 10 (by kernel_rfl)
        obtain ⟨v8, hB, hv, _⟩ := hJ.blk
        refine ⟨wr.setCell ⟨b11, 8, none⟩ (.slice (some ⟨u10.1, 0, none⟩) (k + 1) u10.2), ?_, ⟨hJ.ext.setCell (.inl (by simp)) _, hJ.shape.set _ _ _, _, hB.set_' 8 _ _ rfl, ?_, ?_⟩, (Ext.refl _ _).setCell (.inl (by simp)) _, (Shape.refl _).set _ _ _⟩
        · have q8 : wr.cell? ⟨b11, 8, none⟩ = some v8 := (hB.cell 8).trans rfl
          have qf := hB.frozen
          have hbl := hB.lt
          clear hg hf hB hv
          go_simp
        · intro h
          simp [off] at h
        · exact fun _ => f10.shape ((Shape.refl _).set _ _ _)
      simp only [Act.put, List.setIfInBounds_toArray, List.set_cons_succ, List.set_cons_zero]
      refine relAt_nilS (fun wy r hr hJ hF => ?_)
      have H19 : Row wy w2.heap.size 164 (.slice (some ⟨u19.1, 0, none⟩) (k + 1) u19.2) (k + 1) := hF 19
      clear hF
      obtain ⟨v8, hB, _, h22⟩ := hJ.blk
      have hr8 := h22 (by rw [hr 22 (by decide)]; rfl)
      have HY := hd (And.intro hJ.ext (And.intro hB (And.intro hr8 H19)))
      have q9 : wy.cell? ⟨b11, 9, none⟩ = some vs := (hB.cell 9).trans rfl
      have qf := hB.frozen
      have hbl := hB.lt
      clear hJ hB h22 hr8 H19 hr
      go_wp2_with fail
      go_round
      case rel =>
        refine ⟨k + 1, v8, _, by go_num, by omega, hd ⟨?_, HY.out.2.1.set_' 9 _ _ rfl, HY.out.2.2.1.shape ((Shape.refl _).set _ _ _), HY.out.2.2.2.shape ((Shape.refl _).set _ _ _)⟩⟩
        refine (hI.out.1.step HY.out.1 fun x hx => ?_).setCell (.inl (by simp)) _
        rcases List.mem_cons.1 hx with h | h
        · exact .inl (by simp [h])
        · exact .inr (HT.out _ h)
      case measure => simp [intOf]; omega
    · have hk2 : k = 2 := by omega
      subst hk2
      have hB := hI.out.2.1
      have q15 : wr.cell? ⟨b11, 168, none⟩ = some (.bool false) := (hB.cell 168).trans rfl
      have qf := hB.frozen
      have hn0 : ((xs.length : Int) == 0) = false := by rw [beq_eq_false_iff_ne]; omega
      clear hB
      go_wp2_with fail
      rw [← hSt]
      have hEx : Ext [b11] w2 (wr.setCell ⟨b11, 168, none⟩ (.bool false)) := hI.out.1.setCell (.inl (by simp)) _
      refine ⟨b11, u, vb, vs, rfl, HE2.out.step hEx fun x hx => .inr ?_, HCF.out.ext hEx ?_ ?_ ?_, hI.out.2.1.set_' 168 _ _ rfl, hg1, hg3, hb4, Nat.le_of_lt hbw⟩
      · rw [List.mem_singleton.1 hx]; exact Nat.le_of_lt hbw
      · simp; omega
      · simp; omega
      · simp; omega
end Go.Proofs.Ytedabpldigcffaa
