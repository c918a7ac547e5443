/- Lists drawn: they lie apart; a list of lists as a table. -/
import Derived.Test.YtgbjlccgnfcnaaaGreatSrE
namespace Go.Proofs.YtgbjlccgnfcnaaaGreat
open Go.RowKit
set_option linter.unusedSimpArgs false
set_option linter.unusedVariables false

def sNums (n : Nat) (g : Nat) : Spec := ⟨Nat, 0, fun b => .slice (some ⟨b, 0, none⟩) n n, fun b w => ∃ xs : List Int, xs.length = n ∧ Blk w b 3 (Nums xs) ∧ b ≠ g⟩
theorem sNums.stays {n g : Nat} : ∀ y w w', Ext [g] w w' → (sNums n g).V y w → (sNums n g).V y w' := fun _ _ _ hE ⟨xs, h1, h2, h3⟩ => ⟨xs, h1, h2.ext hE (fun hm => h3 (List.mem_singleton.1 hm)), h3⟩
section
variable {P : Program} {ops : Array Oper} {base g n : Nat} {w0 : World} {S : Nat → Option Spec} {k : Nat} {o : Oper} {rest : List Oper} {a : Act} {F : Nat → World → Prop} {Q : Act → World → Prop}
theorem rel_nums (m : Nat) (xs : List Int) (hS : S k = some (sNums m g)) (hw : Region.wanted o (yielded ops a.tmps) = true) (hm : xs.length = m)
    (hh : ∀ w, (execOp a.eval o).run P w = .ok (.value (.slice (some ⟨w.heap.size, 0, none⟩) m m)) (w.alloc (.cells (Nums xs) 3)))
    (h : ∀ b : Nat, relAt P ops (JS base g n w0) (Ext [g]) S Q (k + 1) rest (a.put o.dst (.slice (some ⟨b, 0, none⟩) m m)) (upd F k ((sNums m g).V b))) : relAt P ops (JS base g n w0) (Ext [g]) S Q k (o :: rest) a F := by
  refine relAt_value (sNums m g) hS hw (fun w n' hJ _ => ?_) h
  have hE : Ext [g] w (w.alloc (.cells (Nums xs) 3)) := (Ext.refl _ _).alloc _
  have hgw := hJ.2.lt
  refine ⟨w.heap.size, _, hh w, ⟨xs, hm, Blk.new _ _ _, by omega⟩, hJ.step hE (hJ.2.alloc _) (by omega), hE⟩
theorem rel_pick (j b m : Nat) (hS : S k = some sAny) (hw : Region.wanted o (yielded ops a.tmps) = true) (hj : o.after.any (fun e => Region.binds .any e && e.on == j) = true) (hF : F j = (sNums m g).V b) (hm : 0 < m ∧ m ≤ 1000)
    (hh : ∀ w, (execOp a.eval o).run Tryz.prog w = .ok (.enter 20 #[.pointer (some ⟨g, 0, none⟩), .slice (some ⟨b, 0, none⟩) m m]) w)
    (h : ∀ x : Int, relAt Tryz.prog ops (JS base g n w0) (Ext [g]) S Q (k + 1) rest (a.put o.dst (.int .i64 x)) (upd F k (fun _ => True))) : relAt Tryz.prog ops (JS base g n w0) (Ext [g]) S Q k (o :: rest) a F := by
  refine relAt_call sAny hS hw ⟨_, _, hh, fun w n' hJ hf => ?_⟩ h
  obtain ⟨e, he, hb⟩ := Array.any_eq_true'.1 hj
  simp only [Bool.and_eq_true, beq_iff_eq] at hb
  have hv := hf e he hb.1
  rw [hb.2, hF] at hv
  obtain ⟨xs, hx, hB, hbg⟩ := hv
  have hp := pick_any base g (n + 3 * n' + 2) b m 3 xs w hJ.stm hB hbg (by omega)
  rw [hx] at hp
  refine hp.mono ?_
  rintro e w' ⟨r, rfl, _, hE, hS'⟩
  exact ⟨r, rfl, trivial, hJ.step hE hS' (by omega), hE⟩
end
/-- A row of its own. -/
def PtO (m : Nat) (w : World) (B : Nat) (v : Value) : Prop := ∃ (A : Option Addr) (c : Nat) (xs : List Int), v = .slice A xs.length c ∧ xs.length = m ∧ m ≤ 10 ∧ w.ownsRow B 3 1 v xs.length (xs.map (Value.int .i64))
/-- A row that can be read. -/
def VOk (w : World) (v : Value) : Prop := ∃ (A : Option Addr) (c : Nat) (xs : List Int), v = .slice A xs.length c ∧ RdI w A xs ∧ xs.length ≤ 2000
variable {m : Nat}
theorem PtO.ext {S : List Nat} {w w' : World} {B : Nat} {v : Value} (h : PtO m w B v) (hE : Ext S w w') (hS : ∀ k, v.ownBlock = some k → k ∉ S) : PtO m w' B v := by
  obtain ⟨A, c, xs, h1, h2, h4, h3⟩ := h
  exact ⟨A, c, xs, h1, h2, h4, own_ext h3 hE hS⟩
theorem PtO.base {w : World} {B : Nat} {v : Value} (h : PtO m w B v) : ∀ k, v.ownBlock = some k → B ≤ k := by
  obtain ⟨A, c, xs, h1, h2, h4, h3⟩ := h
  exact own_base h3
theorem PtO.lt {w : World} {B : Nat} {v : Value} (h : PtO m w B v) : ∀ k, v.ownBlock = some k → k < w.heap.size := by
  obtain ⟨A, c, xs, h1, h2, h4, h3⟩ := h
  exact fun k hk => (h3.lt k hk).2
theorem PtO.blk {w : World} {B : Nat} {v : Value} (h : PtO m w B v) {k : Nat} (hk : v.ownBlock = some k) : ∃ C, Blk w k 3 C := by
  obtain ⟨A, c, xs, h1, h2, h4, h3⟩ := h
  exact own_blk h3 hk
theorem PtO.ok {w : World} {B : Nat} {v : Value} (h : PtO m w B v) : VOk w v := by
  obtain ⟨A, c, xs, rfl, h2, h4, h3⟩ := h
  exact ⟨A, c, xs, rfl, (own_rdb h3).rd, by omega⟩
/-- Rows that lie apart. -/
def Parts (m : Nat) (w : World) (B : Nat) (vs : List Value) : Prop := (∀ v ∈ vs, PtO m w B v) ∧ ∀ (i j : Nat) (x y : Value) (b : Nat), vs[i]? = some x → vs[j]? = some y → i ≠ j → x.ownBlock = some b → y.ownBlock = some b → False
theorem Parts.nil (w : World) (B : Nat) : Parts m w B [] := ⟨fun v hv => (by cases hv), fun i j x y b h => (by simp at h)⟩
theorem Parts.ext {S : List Nat} {w w' : World} {B : Nat} {vs : List Value} (h : Parts m w B vs) (hE : Ext S w w') (hS : ∀ x ∈ S, x < B) : Parts m w' B vs :=
  ⟨fun v hv => (h.1 v hv).ext hE fun k hk hm => by have := hS k hm; have := (h.1 v hv).base k hk; omega, h.2⟩
theorem Parts.grown {w w' : World} {B B' n : Nat} {t : TypeId} {v : Value} {l vs : List Value} (h : Parts m w B vs) (ho : w.ownsRow B' t 1 v n l) (ht : t ≠ 3) (hg : w.grownBy w' v.ownBlock) : Parts m w' B vs :=
  ⟨fun x hx => (h.1 x hx).ext (S := v.ownBlock.toList) ((Ext.refl _ w).grown hg (fun q hq => .inl (by simp [hq]))) fun k hk hm => by
    obtain ⟨C, hC⟩ := (h.1 x hx).blk hk
    obtain ⟨D, hD⟩ := own_blk ho (g := k) (by simpa using hm)
    exact ht (hD.type hC), h.2⟩
theorem Parts.push {w w' : World} {B : Nat} {vs : List Value} {v : Value} (h : Parts m w B vs) (h' : Parts m w' B vs) (hv : PtO m w' B v) (hn : ∀ k, v.ownBlock = some k → w.heap.size ≤ k) : Parts m w' B (vs ++ [v]) := by
  have old : ∀ (i : Nat) (x : Value), vs[i]? = some x → ∀ k, x.ownBlock = some k → k < w.heap.size := fun i x hx k hk => (h.1 x (List.mem_of_getElem? hx)).lt k hk
  refine ⟨fun x hx => ?_, fun i j x y b hx hy hij hxb hyb => ?_⟩
  · rcases List.mem_append.1 hx with h1 | h1
    · exact h'.1 x h1
    · rw [List.mem_singleton.1 h1]; exact hv
  · rw [List.getElem?_append] at hx hy
    split at hx
    · split at hy
      · exact h.2 i j x y b hx hy hij hxb hyb
      · have e : y = v := by
          rcases Nat.eq_zero_or_pos (j - vs.length) with h0 | h0
          · rw [h0] at hy; simpa using hy.symm
          · rw [List.getElem?_eq_none (by simp; omega)] at hy; cases hy
        subst e
        have h1 := old i x hx b hxb
        have h2 := hn b hyb
        omega
    · split at hy
      · have e : x = v := by
          rcases Nat.eq_zero_or_pos (i - vs.length) with h0 | h0
          · rw [h0] at hx; simpa using hx.symm
          · rw [List.getElem?_eq_none (by simp; omega)] at hx; cases hx
        subst e
        have h1 := old j y hy b hyb
        have h2 := hn b hxb
        omega
      · have e1 : i - vs.length < 1 := by
          rcases Nat.lt_or_ge (i - vs.length) 1 with h0 | h0
          · exact h0
          · rw [List.getElem?_eq_none (by simpa using h0)] at hx; cases hx
        have e2 : j - vs.length < 1 := by
          rcases Nat.lt_or_ge (j - vs.length) 1 with h0 | h0
          · exact h0
          · rw [List.getElem?_eq_none (by simpa using h0)] at hy; cases hy
        omega
/-- Rows as a table that lie apart. -/
def Tab (m : Nat) (w : World) (B p : Nat) (F : Nat → Value) : Prop := (∀ i, i < p → PtO m w B (F i)) ∧ ∀ (i j b : Nat), i < p → j < p → i ≠ j → (F i).ownBlock = some b → (F j).ownBlock = some b → False
theorem Parts.tab {w : World} {B p : Nat} {vs : List Value} (h : Parts m w B vs) (hl : vs.length = p) : ∃ F : Nat → Value, (∀ i, i < p → vs[i]? = some (F i)) ∧ Tab m w B p F := by
  have key : ∀ i, i < p → vs[i]? = some ((vs[i]?).getD undef) := fun i hi => by
    rw [List.getElem?_eq_getElem (by omega)]; rfl
  exact ⟨fun i => (vs[i]?).getD undef, key, fun i hi => h.1 _ (List.mem_of_getElem? (key i hi)), fun i j b hi hj hij => h.2 i j _ _ b (key i hi) (key j hj) hij⟩
theorem Tab.ext {S : List Nat} {w w' : World} {B p : Nat} {F : Nat → Value} (h : Tab m w B p F) (hE : Ext S w w') (hS : ∀ x ∈ S, x < B) : Tab m w' B p F :=
  ⟨fun i hi => (h.1 i hi).ext hE fun k hk hm => by have := hS k hm; have := (h.1 i hi).base k hk; omega, h.2⟩
theorem Tab.ok {w : World} {B p : Nat} {F : Nat → Value} (h : Tab m w B p F) : ∀ i, i < p → VOk w (F i) := fun i hi => (h.1 i hi).ok
/-- A list of lists as a table of values. -/
theorem pts_of {w : World} {g p : Nat} {t : TypeId} {F : Nat → Value} (hU : UpW w g t p F) (hF : ∀ i, i < p → VOk w (F i)) : ∃ L : List Pt, L.length = p ∧ PtsIn w g L := by
  have hc : ∀ i : Nat, ∃ x : Pt, i < p → F i = .slice x.A x.xs.length x.c ∧ RdI w x.A x.xs ∧ x.xs.length ≤ 100000 := fun i => by
    by_cases hi : i < p
    · obtain ⟨A, c, xs, h1, h2, h3⟩ := hF i hi
      exact ⟨⟨A, c, xs⟩, fun _ => ⟨h1, h2, by dsimp only; omega⟩⟩
    · exact ⟨⟨none, 0, []⟩, fun h => absurd h hi⟩
  obtain ⟨f, hf⟩ := Classical.axiomOfChoice hc
  refine ⟨(List.range p).map f, by simp, fun i x hx => ?_⟩
  rw [List.getElem?_map] at hx
  by_cases hi : i < p
  · rw [List.getElem?_range hi] at hx
    simp only [Option.map_some, Option.some.injEq] at hx
    subst hx
    obtain ⟨h1, h2, h3⟩ := hf i hi
    exact ⟨by rw [hU.cell hi, h1], h2, h3⟩
  · rw [List.getElem?_eq_none (by simpa using hi)] at hx
    cases hx
theorem PtO.put {w : World} {B g p k : Nat} {F : Nat → Value} {v : Value} (u : Value) (h : PtO m w B v) (hU : UpW w g 22 p F) : PtO m (w.setCell ⟨g, k, none⟩ u) B v :=
  h.ext (S := [g]) ((Ext.refl _ _).setAt (.inl (by simp))) fun q hq hm => by
    obtain ⟨C, hC⟩ := h.blk hq
    obtain ⟨cur, hD, _⟩ := hU
    have e := List.mem_singleton.1 hm
    subst e
    exact absurd (hC.type hD) (by decide)
/-- A new value at one place of the table. -/
theorem upw_put {w : World} {g p k : Nat} {t : TypeId} {F : Nat → Value} {v : Value} (hU : UpW w g t p F) (hF : ∀ i, i < p → i ≠ k → VOk (w.setCell ⟨g, k, none⟩ v) (F i)) (hv : VOk (w.setCell ⟨g, k, none⟩ v) v) : ∃ L : List Pt, L.length = p ∧ PtsIn (w.setCell ⟨g, k, none⟩ v) g L := by
  refine pts_of (hU.set k v (g := fun i => if i = k then v else F i) (fun j _ => rfl)) fun i hi => ?_
  by_cases h : i = k
  · simp only [h, if_true]; exact hv
  · simp only [h, if_false]; exact hF i hi h
theorem nums_put {w : World} {b : Nat} {t : TypeId} {C : Array Value} {xs : List Int} (x : Int) (hB : Blk w b t C) (hc : NumsAt w b 0 xs) : NumsAt (w.setCell ⟨b, 0, none⟩ (.int .i64 x)) b 0 (xs.set 0 x) := fun i y hy => by
  rw [Nat.zero_add, (hB.set_ 0 _).cell]
  cases i with
  | zero =>
    cases xs with
    | nil => simp at hy
    | cons z xs =>
      have h0 := hc 0 z rfl
      rw [Nat.add_zero, hB.cell] at h0
      obtain ⟨hlt, _⟩ := Array.getElem?_eq_some_iff.1 h0
      simp at hy
      subst hy
      simp [hlt]
  | succ i =>
    have h1 : xs[i + 1]? = some y := by rw [List.getElem?_set_ne (by omega)] at hy; exact hy
    have h2 := hc (i + 1) y h1
    rw [Nat.zero_add, hB.cell] at h2
    rw [Array.getElem?_setIfInBounds_ne (by omega)]
    exact h2
theorem wrappedE_any (x : Int) (w : World) : Calls Tryz.prog 25 #[.int .i64 x] w fun e w' => e = .returned (.int .i64 (w32 x)) ∧ Ext [] w w' := by
  refine (wrapped_any x w).mono ?_
  rintro e w' ⟨rfl, rfl⟩
  exact ⟨rfl, Ext.refl _ _⟩
theorem ringE_zero {L : List Pt} (h : ringE L = 0) : L.length ≤ 4 ∧ L.any over1 = false ∧ L.any (odd1 (len0 L)) = false ∧ L.any badP = false := by
  unfold ringE at h
  split at h
  · omega
  · rename_i h1
    have h1 := Decidable.not_not.1 h1
    split at h
    · omega
    · rename_i h2
      split at h
      · omega
      · rename_i h3
        split at h
        · omega
        · rename_i h4
          exact ⟨h1.2, by simpa using h2, by simpa using h3, by simpa using h4⟩
end Go.Proofs.YtgbjlccgnfcnaaaGreat
