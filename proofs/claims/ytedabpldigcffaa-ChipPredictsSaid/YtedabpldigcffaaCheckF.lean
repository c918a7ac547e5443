/- Check: what the checker answers. -/
import Derived.Test.YtedabpldigcffaaCheckE
namespace Go.Proofs.Ytedabpldigcffaa
open Go.RowKit
set_option linter.unusedSimpArgs false
set_option linter.unusedVariables false

/-- What the checker says of one instruction at a nesting. -/
def insE (m : Mc) (D : Nat) (x : Ins) : Int :=
  match formS x with
  | none => 4
  | some f => if unusedS f x then 3 else if rangedS m f x = false then 9 else if x.op = 4 ∧ D = 0 then 7 else if x.op = 3 ∧ 16 ≤ D then 2 else 0
def dStep (D : Nat) (x : Ins) : Nat := if x.op = 3 then D + 1 else if x.op = 4 then D - 1 else D
def codeE (m : Mc) : Nat → List Ins → Int
  | D, [] => if 0 < D then 7 else 0
  | D, x :: xs => if insE m D x = 0 then codeE m (dStep D x) xs else insE m D x
/-- What Check says. -/
def checkS (m : Mc) (xs : List Ins) : Int :=
  if m.okB = false then 9 else if 400000 < xs.length then 2 else if codeE m 0 xs = 0 then (if 40000000 < (turnsS xs).sum then 2 else 0) else codeE m 0 xs

theorem formS_wf (x : Ins) (f : Frm) (h : formS x = some f) : f.wf := by
  have hn : ∀ b : Bool, ∀ v : Int, 0 ≤ v → v ≤ 5 → 0 ≤ nz b v ∧ nz b v ≤ 5 := fun b v h0 h1 => by cases b <;> simp [nz] <;> omega
  have hw : ∀ g : Frm, (0 ≤ g.d ∧ g.d ≤ 5) → (0 ≤ g.a ∧ g.a ≤ 5) → (0 ≤ g.b ∧ g.b ≤ 5) → (0 ≤ g.c ∧ g.c ≤ 5) → (0 ≤ g.n ∧ g.n ≤ 5) → (0 ≤ g.m ∧ g.m ≤ 5) → g.wf := by
    intro g h1 h2 h3 h4 h5 h6 k hk
    match k, hk with
    | 0, _ => exact h1
    | 1, _ => exact h2
    | 2, _ => exact h3
    | 3, _ => exact h4
    | 4, _ => exact h5
    | 5, _ => exact h6
  have hop : ∀ k p, (opForm k 1 p).wf := fun k p => hw _ (by simp [opForm]) (by simp [opForm]) (hn _ 1 (by decide) (by decide)) (hn _ 1 (by decide) (by decide)) (hn _ 5 (by decide) (by decide)) (hn _ 5 (by decide) (by decide))
  have hop2 : ∀ k p, (opForm k 2 p).wf := fun k p => hw _ (by simp [opForm]) (by simp [opForm]) (hn _ 2 (by decide) (by decide)) (hn _ 2 (by decide) (by decide)) (hn _ 5 (by decide) (by decide)) (hn _ 5 (by decide) (by decide))
  unfold formS at h
  by_cases h1 : x.op = 1
  · rw [if_pos h1] at h; cases h; exact hw _ (by decide) (by decide) (by decide) (by decide) (by decide) (by decide)
  rw [if_neg h1] at h
  by_cases h2 : x.op = 2
  · rw [if_pos h2] at h; cases h; exact hop _ _
  rw [if_neg h2] at h
  by_cases h3 : x.op = 3
  · rw [if_pos h3] at h; cases h; exact hw _ (by decide) (by decide) (by decide) (by decide) (by decide) (by decide)
  rw [if_neg h3] at h
  by_cases h4 : x.op = 4
  · rw [if_pos h4] at h; cases h; exact hw _ (by decide) (by decide) (by decide) (by decide) (by decide) (by decide)
  rw [if_neg h4] at h
  by_cases h5 : x.op = 5
  · rw [if_pos h5] at h; cases h; exact hw _ (by decide) (by decide) (by decide) (by decide) (by decide) (by decide)
  rw [if_neg h5] at h
  by_cases h6 : x.op = 6
  · rw [if_pos h6] at h; cases h; exact hw _ (by decide) (by decide) (by decide) (by decide) (by decide) (by decide)
  rw [if_neg h6] at h
  by_cases h7 : x.op = 7
  · rw [if_pos h7] at h; cases h; exact hw _ (by decide) (by decide) (by decide) (by decide) (by decide) (by decide)
  rw [if_neg h7] at h
  by_cases h8 : x.op = 8
  · rw [if_pos h8] at h; cases h; exact hw _ (by decide) (by decide) (by decide) (by decide) (by decide) (by decide)
  rw [if_neg h8] at h
  by_cases h9 : x.op = 9
  · rw [if_pos h9] at h; cases h; exact hw _ (by decide) (by decide) (by decide) (by decide) (by decide) (by decide)
  rw [if_neg h9] at h
  by_cases h10 : x.op = 10
  · rw [if_pos h10] at h; cases h; exact hw _ (by decide) (by decide) (by decide) (by decide) (by decide) (by decide)
  rw [if_neg h10] at h
  by_cases h11 : x.op = 11
  · rw [if_pos h11] at h; cases h; exact hop2 _ _
  rw [if_neg h11] at h
  by_cases h12 : x.op = 12
  · rw [if_pos h12] at h; cases h; exact hw _ (by decide) (by decide) (by decide) (by decide) (by decide) (by decide)
  rw [if_neg h12] at h
  by_cases h13 : x.op = 13
  · rw [if_pos h13] at h; cases h; exact hw _ (by decide) (by decide) (by decide) (by decide) (by decide) (by decide)
  rw [if_neg h13] at h
  by_cases h14 : x.op = 14
  · rw [if_pos h14] at h; cases h; exact hw _ (by decide) (by decide) (by decide) (by decide) (by decide) (by decide)
  rw [if_neg h14] at h
  by_cases h15 : x.op = 15
  · rw [if_pos h15] at h; cases h; exact hw _ (by decide) (by decide) (by decide) (by decide) (by decide) (by decide)
  rw [if_neg h15] at h
  by_cases h16 : x.op = 16
  · rw [if_pos h16] at h; cases h; exact hw _ (by decide) (by decide) (by decide) (by decide) (by decide) (by decide)
  rw [if_neg h16] at h
  by_cases h17 : x.op = 17
  · rw [if_pos h17] at h; cases h; exact hw _ (by decide) (by decide) (by decide) (by decide) (by decide) (by decide)
  rw [if_neg h17] at h
  by_cases h18 : x.op = 18
  · rw [if_pos h18] at h; cases h; exact hw _ (by decide) (by decide) (by decide) (by decide) (by decide) (by decide)
  rw [if_neg h18] at h
  by_cases h19 : x.op = 19
  · rw [if_pos h19] at h; cases h; exact hw _ (by decide) (by decide) (by decide) (by decide) (by decide) (by decide)
  rw [if_neg h19] at h
  cases h

theorem insE_op3 {m : Mc} {D : Nat} {x : Ins} (h : insE m D x = 0) (h3 : x.op = 3) : 0 ≤ x.m ∧ x.m ≤ 1000000 := by
  unfold insE at h
  split at h
  · omega
  · rename_i f hf
    split at h
    · omega
    · split at h
      · omega
      · rename_i hr
        simp only [Bool.not_eq_false] at hr
        unfold rangedS rangedX at hr
        simp only [h3, Bool.and_eq_true] at hr
        have := hr.2
        simp at this
        exact inR_iff.1 this.2
theorem insE_op4 {m : Mc} {D : Nat} {x : Ins} (h : insE m D x = 0) (h4 : x.op = 4) : 0 < D := by
  unfold insE at h
  split at h
  · omega
  · split at h
    · omega
    · split at h
      · omega
      · split at h
        · omega
        · rename_i h5
          simp only [h4, true_and] at h5
          omega
theorem codeE_loops {m : Mc} {xs : List Ins} : ∀ {D : Nat}, codeE m D xs = 0 → loopsOk xs := by
  induction xs with
  | nil => intro D _ x hx; simp at hx
  | cons x xs ih =>
    intro D h
    simp only [codeE] at h
    split at h
    · rename_i h0
      intro y hy h3
      rcases List.mem_cons.1 hy with rfl | hy
      · exact insE_op3 h0 h3
      · exact ih h y hy h3
    · omega
theorem codeE_stack {m : Mc} {xs : List Ins} : ∀ {D : Nat} (st : List Int), codeE m D xs = 0 → D < st.length → ∀ k, k ≤ xs.length → (xs.take k).foldl stStep st ≠ [] := by
  induction xs with
  | nil => intro D st _ hst k _; simp; intro h; simp [h] at hst
  | cons x xs ih =>
    intro D st h hst k hk
    cases k with
    | zero => simp; intro h; simp [h] at hst
    | succ k =>
      simp only [codeE] at h
      split at h
      · rename_i h0
        simp only [List.take_succ_cons, List.foldl_cons]
        refine ih _ h ?_ k (by simpa using hk)
        unfold dStep stStep
        split
        · simpa using hst
        · split
          · rename_i h4
            have := insE_op4 h0 h4
            simp; omega
          · exact hst
      · omega
theorem turnsS_bound {xs : List Ins} (h : loopsOk xs) : ∀ t ∈ turnsS xs, 0 ≤ t ∧ t ≤ 40000001 := by
  intro t ht
  obtain ⟨j, _, rfl⟩ := List.mem_map.1 ht
  cases hs : stAt xs j with
  | nil => simp
  | cons a st => exact stAt_bound h j a (by rw [hs]; simp)
theorem turnsS_length (xs : List Ins) : (turnsS xs).length = xs.length := by simp [turnsS]
theorem sum_nonneg {l : List Int} (h : ∀ t ∈ l, 0 ≤ t) : 0 ≤ l.sum := by
  induction l with
  | nil => simp
  | cons a l ih =>
    have := h a (by simp)
    have := ih fun t ht => h t (List.mem_cons_of_mem _ ht)
    simp; omega
theorem sum_take_le {l : List Int} (h : ∀ t ∈ l, 0 ≤ t) (k : Nat) : (l.take k).sum ≤ l.sum := by
  have h1 : (l.take k).sum + (l.drop k).sum = l.sum := by rw [← List.sum_append, List.take_append_drop]
  have h2 : 0 ≤ (l.drop k).sum := sum_nonneg fun t ht => h t (List.mem_of_mem_drop ht)
  omega
theorem sum_take_succ {l : List Int} {k : Nat} {t : Int} (h : l[k]? = some t) : (l.take (k + 1)).sum = (l.take k).sum + t := by
  rw [List.take_add_one, h, List.sum_append]
  simp

/-- What the loop over the code still has to say. -/
def ChkSt (m : Mc) (xs : List Ins) (D : Nat) (k : Nat) : Prop := codeE m 0 xs = codeE m D (xs.drop k) ∧ D ≤ k
theorem ChkSt.next {m : Mc} {xs : List Ins} {D k : Nat} {x : Ins} (h : ChkSt m xs D k) (hx : xs[k]? = some x) (h0 : insE m D x = 0) : ChkSt m xs (dStep D x) (k + 1) := by
  obtain ⟨hk, e⟩ := List.getElem?_eq_some_iff.1 hx
  refine ⟨?_, by have := h.2; unfold dStep; split <;> (try split) <;> omega⟩
  rw [h.1, List.drop_eq_getElem_cons hk, e]
  simp only [codeE, h0, if_pos]
theorem ChkSt.stop {m : Mc} {xs : List Ins} {D k : Nat} {x : Ins} (h : ChkSt m xs D k) (hx : xs[k]? = some x) (h0 : insE m D x ≠ 0) : codeE m 0 xs = insE m D x := by
  obtain ⟨hk, e⟩ := List.getElem?_eq_some_iff.1 hx
  rw [h.1, List.drop_eq_getElem_cons hk, e]
  simp only [codeE, if_neg h0]
theorem ChkSt.end {m : Mc} {xs : List Ins} {D k : Nat} (h : ChkSt m xs D k) (hk : xs.length ≤ k) : codeE m 0 xs = if 0 < D then 7 else 0 := by
  rw [h.1, List.drop_eq_nil_of_le hk]
  rfl

set_option maxHeartbeats 4000000 in
set_option maxRecDepth 100000 in
theorem check_any (m : Mc) (A : Option Addr) (cap : Nat) (xs : List Ins) (w : World) (h : RdC w A xs) (hl : xs.length ≤ 100000) :
    Calls Try.prog 22 #[.agg m.cells.toArray, .slice A xs.length cap] w fun e w' => e = .returned (.int .i64 (checkS m xs)) ∧ Ext [] w w' := by
  have HH := hd h
  have HS : Hd (checkS m xs = if m.okB = false then 9 else if 400000 < xs.length then 2 else if codeE m 0 xs = 0 then (if 40000000 < (turnsS xs).sum then 2 else 0) else codeE m 0 xs) := hd rfl
  have HC : Hd (ChkSt m xs 0 0) := hd ⟨by simp, by omega⟩
  have HO : Hd (m.okB = (inR m.main 1 524288 && inR m.banks 2 8 && inR m.bank 256 4096 && inR m.lanes 2 8 && inR m.queues 1 4)) := hd rfl
  clear h
  have hmc : m.cells = [.int .i64 m.main, .int .i64 m.banks, .int .i64 m.bank, .int .i64 m.lanes, .int .i64 m.queues] := rfl
  rw [hmc]
  generalize checkS m xs = r at *
  go_enter Try.func22, Try.ntmps22
  go_wp2_with fail
  refine (checkMachine_any m _).mono ?_
  rintro e w1 ⟨rfl, hE1⟩
  have hB1 := (Blk.new w 40 m.cells.toArray).ext hE1 (by simp)
  have hf1 := hB1.cell
  have hl1 := hB1.lt
  have HE1 := hd (((Ext.refl [] w).alloc _).trans hE1)
  rw [hmc] at hf1
  clear hE1 hB1
  cases hok : m.okB
  · simp only [okE]
    go_wp2_with fail
    go_ret
    exact ⟨ret_int (by rw [HS.out, if_pos hok]), HE1.out⟩
  · simp only [okE]
    have hbn : (0 ≤ m.banks ∧ m.banks ≤ 1000) ∧ (0 ≤ m.queues ∧ m.queues ≤ 1000) ∧ (0 ≤ m.lanes ∧ m.lanes ≤ 1000) := by
      have h0 := HO.out
      rw [hok] at h0
      have h1 := h0.symm
      simp only [Bool.and_eq_true, inR_iff] at h1
      omega
    have HBN := hd hbn
    have HS2 : Hd (r = if codeE m 0 xs = 0 then (if 40000000 < (turnsS xs).sum then 2 else 0) else codeE m 0 xs) := hd (by rw [HS.out, if_neg (by simp [hok]), if_neg (by omega)])
    clear hbn HO hok HS
    go_wp2_with fail
    have hB2 := Blk.new w1 85 m.cells.toArray
    rw [hmc] at hB2
    have HB2 := hd hB2
    clear hB2 hf1
    go_loopw [7, 27] (fun d i wr => ∃ k D : Nat, i = .int .i64 k ∧ d = .int .i64 D ∧ k ≤ xs.length ∧ Hd (ChkSt m xs D k) ∧ Ext [] (w1.alloc (.cells #[.int .i64 m.main, .int .i64 m.banks, .int .i64 m.bank, .int .i64 m.lanes, .int .i64 m.queues] 85)) wr) (fun _ i _ => (xs.length - intOf i).toNat)
    case atStart => exact ⟨0, 0, rfl, rfl, by omega, HC, Ext.refl _ _⟩
    case round =>
      obtain ⟨k, D, rfl, rfl, hk, hK, hE⟩ := hrel
      by_cases hlt : k < xs.length
      · obtain ⟨x, hx⟩ : ∃ x, xs[k]? = some x := ⟨_, List.getElem?_eq_getElem hlt⟩
        have HX := hd hx
        obtain ⟨b, o, rfl, hb, hcx⟩ := (HH.out.ext (HE1.out.trans (((Ext.refl _ _).alloc _).trans hE)) (by simp)).at hx
        have hxc : x.cells = [.int .i64 x.op, .int .i64 x.k, .int .i64 x.d, .int .i64 x.a, .int .i64 x.b, .int .i64 x.c, .int .i64 x.p, .int .i64 x.n, .int .i64 x.m] := rfl
        have h0 := hcx 0 _ rfl
        have h1 := hcx 1 _ rfl
        have h2 := hcx 2 _ rfl
        have h3 := hcx 3 _ rfl
        have h4 := hcx 4 _ rfl
        have h5 := hcx 5 _ rfl
        have h6 := hcx 6 _ rfl
        have h7 := hcx 7 _ rfl
        have h8 := hcx 8 _ rfl
        simp only [Nat.add_zero] at h0
        clear hcx hx
        have HE := hd hE
        clear hE
        go_wp2_with fail
        refine (formOf_any x _).mono ?_
        rintro e W1 ⟨⟨s, rfl⟩, hW1⟩
        have HB3 := hd ((Blk.new wr 64 x.cells.toArray).ext hW1 (by simp))
        have HE2 := hd (HE.out.trans (((Ext.refl _ _).alloc _).trans hW1))
        have hf3 := HB3.out.cell
        have hl3 := HB3.out.lt
        rw [hxc] at hf3
        have HI : Hd (insE m D x = _) := hd (by unfold insE; rfl)
        clear h0 h1 h2 h3 h4 h5 h6 h7 h8 hW1 hb
        cases hfo : formS x with
        | none =>
          have HI2 : Hd (insE m D x = 4) := hd (by unfold insE; rw [hfo])
          simp only [hfo, Option.getD, Option.isSome, Frm.cells, zF]
          go_wp2_with fail
          go_ret
          exact ⟨ret_int (by rw [HS2.out, hK.out.stop HX.out (by rw [HI2.out]; decide), HI2.out]; rfl), HE1.out.trans (((Ext.refl _ _).alloc _).trans (HE2.out.alloc _))⟩
        | some f =>
          have HI2 : Hd (insE m D x = if unusedS f x then 3 else if rangedS m f x = false then 9 else if x.op = 4 ∧ D = 0 then 7 else if x.op = 3 ∧ 16 ≤ D then 2 else 0) := hd (by unfold insE; rw [hfo])
          have HWF := hd (formS_wf x f hfo)
          have hfc : Frm.cells s f = [.string s, .bool f.k, .int .i64 f.d, .int .i64 f.a, .int .i64 f.b, .int .i64 f.c, .int .i64 f.n, .int .i64 f.m, .bool f.p] := rfl
          simp only [hfo, Option.getD, Option.isSome, hfc]
          clear hfo HI
          go_wp2_with fail
          refine (unused_any s f x _).mono ?_
          rintro e W2 ⟨rfl, hW2⟩
          have HF := hd ((Blk.new W1 87 (Frm.cells s f).toArray).ext hW2 (by simp))
          have hff := HF.out.cell
          have hlf := HF.out.lt
          rw [hfc] at hff
          have HX3 := hd ((HB3.out.alloc (.cells (Frm.cells s f).toArray 87)).ext hW2 (by simp))
          have HE3 := hd (HE2.out.trans (((Ext.refl _ _).alloc _).trans hW2))
          have hfm := (HB2.out.ext HE3.out (by simp)).cell
          have hlm := (HB2.out.ext HE3.out (by simp)).lt
          have hfx := HX3.out.cell
          have hlx := HX3.out.lt
          rw [hxc] at hfx
          clear hW2 hf3 hl3 HB3 HF
          cases hun : unusedS f x with
          | true =>
            have HI3 : Hd (insE m D x = 3) := hd (by rw [HI2.out, if_pos hun])
            clear hun
            go_wp2_with fail
            go_ret
            exact ⟨ret_int (by rw [HS2.out, hK.out.stop HX.out (by rw [HI3.out]; decide), HI3.out]; rfl), HE1.out.trans (((Ext.refl _ _).alloc _).trans HE3.out)⟩
          | false =>
            have HI3 : Hd (insE m D x = if rangedS m f x = false then 9 else if x.op = 4 ∧ D = 0 then 7 else if x.op = 3 ∧ 16 ≤ D then 2 else 0) := hd (by rw [HI2.out, if_neg (by simp [hun])])
            clear hun HI2
            go_wp2_with fail
            refine (ranged_any s m f x _ HWF.out HBN.out.1 HBN.out.2.1 HBN.out.2.2).mono ?_
            rintro e W3 ⟨rfl, hW3⟩
            have HE4 := hd (HE3.out.trans hW3)
            have hfx2 := (HX3.out.ext hW3 (by simp)).cell
            have hlx2 := (HX3.out.ext hW3 (by simp)).lt
            rw [hxc] at hfx2
            clear hff hlf hfm hlm hfx hlx hW3 HX3
            cases hra : rangedS m f x with
            | false =>
              have HI4 : Hd (insE m D x = 9) := hd (by rw [HI3.out, if_pos hra])
              clear hra
              go_wp2_with fail
              go_ret
              exact ⟨ret_int (by rw [HS2.out, hK.out.stop HX.out (by rw [HI4.out]; decide), HI4.out]; rfl), HE1.out.trans (((Ext.refl _ _).alloc _).trans HE4.out)⟩
            | true =>
              have HI5 : Hd (insE m D x = if x.op = 4 ∧ D = 0 then 7 else if x.op = 3 ∧ 16 ≤ D then 2 else 0) := hd (by rw [HI3.out, if_neg (by simp [hra])])
              clear hra HI3
              have hDk := hK.out.2
              have hop : x.op = 3 ∨ x.op = 4 ∨ ((x.op == 3) = false ∧ (x.op == 4) = false) := by simp; omega
              rcases hop with hop | hop | ⟨hn3, hn4⟩
              · by_cases hD : 16 ≤ D
                · have HI4 : Hd (insE m D x = 2) := hd (by rw [HI5.out, if_neg (by omega), if_pos ⟨hop, hD⟩])
                  rw [hop] at hfx2
                  clear HI5
                  go_wp2_with fail
                  go_ret
                  exact ⟨ret_int (by rw [HS2.out, hK.out.stop HX.out (by rw [HI4.out]; decide), HI4.out]; rfl), HE1.out.trans (((Ext.refl _ _).alloc _).trans HE4.out)⟩
                · have HI4 : Hd (insE m D x = 0) := hd (by rw [HI5.out, if_neg (by omega), if_neg (by omega)])
                  have HD : Hd (dStep D x = D + 1) := hd (by simp [dStep, hop])
                  rw [hop] at hfx2
                  clear HI5
                  go_wp2_with fail
                  go_round
                  case rel => exact ⟨k + 1, dStep D x, by go_num, by rw [HD.out]; go_num, by omega, hd (hK.out.next HX.out HI4.out), HE4.out⟩
                  case measure => simp [intOf]; omega
              · by_cases hD : D = 0
                · have HI4 : Hd (insE m D x = 7) := hd (by rw [HI5.out, if_pos ⟨hop, hD⟩])
                  rw [hop] at hfx2
                  clear HI5
                  go_wp2_with fail
                  go_ret
                  exact ⟨ret_int (by rw [HS2.out, hK.out.stop HX.out (by rw [HI4.out]; decide), HI4.out]; rfl), HE1.out.trans (((Ext.refl _ _).alloc _).trans HE4.out)⟩
                · have HI4 : Hd (insE m D x = 0) := hd (by rw [HI5.out, if_neg (by omega), if_neg (by omega)])
                  have HD : Hd (dStep D x = D - 1) := hd (by simp [dStep, hop])
                  rw [hop] at hfx2
                  clear HI5
                  go_wp2_with fail
                  go_round
                  case rel => exact ⟨k + 1, dStep D x, by go_num, by rw [HD.out]; go_num, by omega, hd (hK.out.next HX.out HI4.out), HE4.out⟩
                  case measure => simp [intOf]; omega
              · have HI4 : Hd (insE m D x = 0) := hd (by
                  simp only [beq_eq_false_iff_ne] at hn3 hn4
                  rw [HI5.out, if_neg (by omega), if_neg (by omega)])
                have HD : Hd (dStep D x = D) := hd (by
                  simp only [beq_eq_false_iff_ne] at hn3 hn4
                  simp [dStep, hn3, hn4])
                clear HI5
                go_wp2_with fail
                go_round
                case rel => exact ⟨k + 1, dStep D x, by go_num, by rw [HD.out], by omega, hd (hK.out.next HX.out HI4.out), HE4.out⟩
                case measure => simp [intOf]; omega
      · have HK := hd (hK.out.end (by omega))
        have HE := hd (HE1.out.trans (((Ext.refl _ _).alloc _).trans hE))
        by_cases hD : 0 < D
        · have HK2 : Hd (codeE m 0 xs = 7) := hd (by rw [HK.out, if_pos hD])
          clear hE
          go_wp2_with fail
          go_ret
          exact ⟨ret_int (by rw [HS2.out, HK2.out]; rfl), HE.out⟩
        · have HK2 : Hd (codeE m 0 xs = 0) := hd (by rw [HK.out, if_neg hD])
          clear hE
          go_wp2_with fail
          refine (turns_any _ _ xs _ (HH.out.ext HE.out (by simp)) hl (codeE_loops HK2.out) (codeE_stack [1] HK2.out (by simp))).mono ?_
          rintro e W1 ⟨b, rfl, hW1, hBt⟩
          have HTB := hd (turnsS_bound (codeE_loops HK2.out))
          have HTL := hd (turnsS_length xs)
          have HE5 := hd (HE.out.trans hW1)
          have HBt := hd hBt
          have hlb := hBt.lt
          have HS3 : Hd (r = if 40000000 < (turnsS xs).sum then 2 else 0) := hd (by rw [HS2.out, if_pos HK2.out])
          clear hW1 hBt HS2 HK
          generalize turnsS xs = ts at *
          go_wp2_with fail
          go_loopw [12, 81] (fun d i wr => ∃ k : Nat, i = .int .i64 k ∧ d = .int .i64 (ts.take k).sum ∧ k ≤ ts.length ∧ (ts.take k).sum ≤ 40000000 ∧ wr = W1) (fun _ i _ => (xs.length - intOf i).toNat)
          case atStart => exact ⟨0, rfl, rfl, by omega, by simp, rfl⟩
          case round =>
            obtain ⟨k, rfl, rfl, hk, hs, rfl⟩ := hrel
            have hln := HTL.out
            by_cases hlt : k < ts.length
            · obtain ⟨t, ht⟩ : ∃ t, ts[k]? = some t := ⟨_, List.getElem?_eq_getElem hlt⟩
              have HT := hd ht
              obtain ⟨ht0, ht1⟩ := HTB.out t (List.mem_of_getElem? ht)
              have hs0 : 0 ≤ (ts.take k).sum := sum_nonneg fun t ht => (HTB.out t (List.mem_of_mem_take ht)).1
              have HSS := hd (sum_take_succ ht)
              have hc : wr.cell? ⟨b, k, none⟩ = some (.int .i64 t) := by
                rw [HBt.out.cell]; simp [Nums, ht]
              clear ht
              generalize (ts.take k).sum = q at *
              by_cases hgt : 40000000 < q + t
              · go_wp2_with fail
                go_ret
                exact ⟨ret_int (by
                  rw [HS3.out, if_pos]
                  have := sum_take_le (fun t ht => (HTB.out t ht).1) (l := ts) (k + 1)
                  rw [HSS.out] at this
                  omega), HE5.out⟩
              · go_wp2_with fail
                go_round
                case rel => exact ⟨k + 1, by go_num, by rw [HSS.out], by omega, by rw [HSS.out]; omega, by first | rfl | trivial⟩
                case measure => simp [intOf]; omega
            · have hk2 : k = ts.length := by omega
              have hs2 : ts.sum ≤ 40000000 := by rw [hk2, List.take_length] at hs; exact hs
              have HS4 : Hd (r = 0) := hd (by rw [HS3.out, if_neg (by omega)])
              clear hs hs2
              go_wp2_with fail
              go_ret
              exact ⟨ret_int HS4.out.symm, HE5.out⟩
end Go.Proofs.Ytedabpldigcffaa
