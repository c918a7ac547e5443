/- Regions that only draw numbers from the stream: the class of worlds, the kinds of values, the steps. -/
import Derived.Test.YtedabpldigcffaaCoder
namespace Go.Proofs.Ytedabpldigcffaa
open Go.RowKit

/-- Only the stream has turned since w0, and it has enough numbers left for k operations more. -/
def JS (base g n : Nat) (w0 : World) (k : Nat) (w : World) : Prop := Ext [g] w0 w ∧ Stm w base g (n + 3 * k)
theorem JS.less {base g n : Nat} {w0 : World} (k : Nat) (w : World) (h : JS base g n w0 (k + 1) w) : JS base g n w0 k w := ⟨h.1, h.2.less (by omega)⟩
theorem JS.start {base g n : Nat} {w0 : World} {p : Nat} (h : Stm w0 base g (n + 3 * p)) : JS base g n w0 p w0.drew := ⟨(Ext.refl _ _).drew, h⟩
theorem JS.step {base g n : Nat} {w0 w w' : World} {k m : Nat} (h : JS base g n w0 (k + 1) w) (hE : Ext [g] w w') (hS : Stm w' base g m) (hm : n + 3 * k ≤ m) : JS base g n w0 k w' := ⟨h.1.trans hE, hS.less hm⟩
theorem JS.stm {base g n : Nat} {w0 w : World} {k : Nat} (h : JS base g n w0 (k + 1) w) : Stm w base g (n + 3 * k + 3) := h.2.less (by omega)

/-- Any int. -/
def sAny : Spec := ⟨Int, 0, Value.int .i64, fun _ _ => True⟩
def sBool : Spec := ⟨Bool, false, Value.bool, fun _ _ => True⟩
/-- An int below m. -/
def sBelow (m : Int) : Spec := ⟨Int, 0, Value.int .i64, fun r _ => 0 ≤ r ∧ r < m⟩
/-- A new block of so many ints, as a slice. -/
def sNums (n : Nat) (g : Nat) : Spec := ⟨Nat, 0, fun b => .slice (some ⟨b, 0, none⟩) n n, fun b w => ∃ xs : List Int, xs.length = n ∧ Blk w b 3 (Nums xs) ∧ b ≠ g⟩
/-- A new block for one value. -/
def sBlk (t : TypeId) (cs : Array Value) (g lo : Nat) : Spec := ⟨Nat, 0, fun b => .pointer (some ⟨b, 0, none⟩), fun b w => Blk w b t cs ∧ b ≠ g ∧ lo ≤ b⟩
/-- An instruction. -/
def sIns : Spec := ⟨Ins, ⟨0, 0, 0, 0, 0, 0, 0, 0, 0⟩, fun x => .agg x.cells.toArray, fun _ _ => True⟩

/-- Facts that stay. -/
def Stays (S : Nat → Option Spec) (R : World → World → Prop) : Prop := ∀ i s, S i = some s → ∀ x w w', R w w' → s.V x w → s.V x w'
/-- The kinds by a list. -/
def kinds (l : List (Nat × Spec)) (i : Nat) : Option Spec := (l.find? fun x => x.1 == i).map (·.2)
theorem Stays.nil {R : World → World → Prop} : Stays (kinds []) R := by
  intro i s hs; simp [kinds] at hs
theorem Stays.cons {j : Nat} {t : Spec} {l : List (Nat × Spec)} {R : World → World → Prop} (ht : ∀ y w w', R w w' → t.V y w → t.V y w') (h : Stays (kinds l) R) : Stays (kinds ((j, t) :: l)) R := by
  intro i s hs
  by_cases hj : j = i
  · subst hj
    simp [kinds] at hs
    subst hs
    exact ht
  · refine h i s ?_
    simp only [kinds, List.find?_cons] at hs ⊢
    have : (j == i) = false := by simpa using hj
    rw [this] at hs
    exact hs
/-- A new block of so many instructions, as a slice. -/
def sInss (n : Nat) (g : Nat) : Spec := ⟨Nat, 0, fun b => .slice (some ⟨b, 0, none⟩) n n, fun b w => ∃ xs : List Ins, xs.length = n ∧ Blk w b 64 (codeCells xs).toArray ∧ b ≠ g⟩
theorem sInss.stays {n g : Nat} : ∀ y w w', Ext [g] w w' → (sInss n g).V y w → (sInss n g).V y w' := fun _ _ _ hE ⟨xs, h1, h2, h3⟩ => ⟨xs, h1, h2.ext hE (fun hm => h3 (List.mem_singleton.1 hm)), h3⟩
/-- Where an instruction lies. -/
def sPtr (g : Nat) : Spec := ⟨Nat × Nat, (0, 0), fun p => .pointer (some ⟨p.1, p.2, none⟩), fun p w => (∃ x : Ins, ∀ i u, x.cells[i]? = some u → w.cell? ⟨p.1, p.2 + i, none⟩ = some u) ∧ p.1 ≠ g⟩
theorem sPtr.stays {g : Nat} : ∀ y w w', Ext [g] w w' → (sPtr g).V y w → (sPtr g).V y w' := fun _ _ _ hE ⟨⟨x, h1⟩, h2⟩ => ⟨⟨x, fun i u hu => hE.held (h1 i u hu) (fun hm => h2 (List.mem_singleton.1 hm))⟩, h2⟩
theorem sAny.stays {R : World → World → Prop} : ∀ y w w', R w w' → sAny.V y w → sAny.V y w' := fun _ _ _ _ h => h
theorem sBool.stays {R : World → World → Prop} : ∀ y w w', R w w' → sBool.V y w → sBool.V y w' := fun _ _ _ _ h => h
theorem sBelow.stays {m : Int} {R : World → World → Prop} : ∀ y w w', R w w' → (sBelow m).V y w → (sBelow m).V y w' := fun _ _ _ _ h => h
theorem sNums.stays {n g : Nat} : ∀ y w w', Ext [g] w w' → (sNums n g).V y w → (sNums n g).V y w' := fun _ _ _ hE ⟨xs, h1, h2, h3⟩ => ⟨xs, h1, h2.ext hE (fun hm => h3 (List.mem_singleton.1 hm)), h3⟩
theorem sBlk.stays {t : TypeId} {cs : Array Value} {g lo : Nat} : ∀ y w w', Ext [g] w w' → (sBlk t cs g lo).V y w → (sBlk t cs g lo).V y w' := fun _ _ _ hE ⟨h1, h2, h3⟩ => ⟨h1.ext hE (fun hm => h2 (List.mem_singleton.1 hm)), h2, h3⟩
theorem sIns.stays {R : World → World → Prop} : ∀ y w w', R w w' → sIns.V y w → sIns.V y w' := fun _ _ _ _ h => h

def zI : Ins := ⟨0, 0, 0, 0, 0, 0, 0, 0, 0⟩
/-- One field turned. -/
def Ins.set (x : Ins) : Nat → Int → Ins
  | 0, v => { x with op := v }
  | 1, v => { x with k := v }
  | 2, v => { x with d := v }
  | 3, v => { x with a := v }
  | 4, v => { x with b := v }
  | 5, v => { x with c := v }
  | 6, v => { x with p := v }
  | 7, v => { x with n := v }
  | _, v => { x with m := v }
theorem Ins.set_cells (x : Ins) (i : Nat) (v : Int) (hi : i < 9) : (x.set i v).cells.toArray = x.cells.toArray.setIfInBounds i (.int .i64 v) := by
  match i, hi with
  | 0, _ | 1, _ | 2, _ | 3, _ | 4, _ | 5, _ | 6, _ | 7, _ | 8, _ => rfl
/-- Block b holds an instruction. -/
def IB (w : World) (b : Nat) (x : Ins) : Prop := Blk w b 64 x.cells.toArray
theorem IB.set {w : World} {b : Nat} {x : Ins} (h : IB w b x) (i : Nat) (v : Int) (hi : i < 9) : IB (w.setCell ⟨b, i, none⟩ (.int .i64 v)) b (x.set i v) := by
  unfold IB; rw [Ins.set_cells x i v hi]; exact Blk.set_ h i _
theorem IB.cells {w : World} {b : Nat} {x : Ins} (h : IB w b x) : (∀ i, w.cell? ⟨b, i, none⟩ = #[Value.int .i64 x.op, .int .i64 x.k, .int .i64 x.d, .int .i64 x.a, .int .i64 x.b, .int .i64 x.c, .int .i64 x.p, .int .i64 x.n, .int .i64 x.m][i]?) ∧ (∀ i, w.frozen? ⟨b, i, none⟩ = false) := Blk.both h

/-- All fields turned. -/
theorem IB.all {w : World} {b : Nat} {x : Ins} (h : IB w b x) (y0 y1 y2 y3 y4 y5 y6 y7 y8 : Int) :
    IB (((((((((w.setCell ⟨b, 0, none⟩ (.int .i64 y0)).setCell ⟨b, 1, none⟩ (.int .i64 y1)).setCell ⟨b, 2, none⟩ (.int .i64 y2)).setCell ⟨b, 3, none⟩ (.int .i64 y3)).setCell ⟨b, 4, none⟩ (.int .i64 y4)).setCell ⟨b, 5, none⟩ (.int .i64 y5)).setCell ⟨b, 6, none⟩ (.int .i64 y6)).setCell ⟨b, 7, none⟩ (.int .i64 y7)).setCell ⟨b, 8, none⟩ (.int .i64 y8)) b ⟨y0, y1, y2, y3, y4, y5, y6, y7, y8⟩ :=
  ((((((((h.set 0 y0 (by omega)).set 1 y1 (by omega)).set 2 y2 (by omega)).set 3 y3 (by omega)).set 4 y4 (by omega)).set 5 y5 (by omega)).set 6 y6 (by omega)).set 7 y7 (by omega)).set 8 y8 (by omega)
/-- An instruction that is a result. -/
theorem results_ins {fn : Func} {p : Tmp} (h : fn.results = #[.cell p 64]) (tmps : Array Value) (w : World) (g : Nat) (x : Ins)
    (hp : tmps.getD p undef = .pointer (some ⟨g, 0, none⟩)) (hg : IB w g x) : (results fn tmps).run Try.prog w = .ok (.agg x.cells.toArray) w :=
  results_cell_row h tmps w g _ x.cells.toArray (0, 0) _ hp hg Try.underlying64 rfl (by kernel_rfl)

/-- The making of an instruction in block b of the call's own: from w on only the stream has turned. -/
structure OpSt (base g n b : Nat) (w wx : World) (x : Ins) : Prop where
  ext : Ext [g] w wx
  stm : Stm wx base g n
  ins : IB wx b x
  bg : b ≠ g
  bas : base ≤ b
  new : w.heap.size ≤ b
theorem OpSt.set {base g n b : Nat} {w wx : World} {x : Ins} (h : OpSt base g n b w wx x) (i : Nat) (v : Int) (hi : i < 9) : OpSt base g n b w (wx.setCell ⟨b, i, none⟩ (.int .i64 v)) (x.set i v) :=
  ⟨h.ext.setCell (.inr h.new) _, h.stm.setCell (fun e => h.bg e.symm) h.bas _, h.ins.set i v hi, h.bg, h.bas, h.new⟩
theorem OpSt.draw {base g n m b : Nat} {w wx wy : World} {x : Ins} (h : OpSt base g n b w wx x) (hE : Ext [g] wx wy) (hS : Stm wy base g m) : OpSt base g m b w wy x :=
  ⟨h.ext.trans hE, hS, Blk.ext h.ins hE (fun hm => h.bg (List.mem_singleton.1 hm)), h.bg, h.bas, h.new⟩
theorem OpSt.alloc {base g n b : Nat} {w wx : World} {x : Ins} (h : OpSt base g n b w wx x) (o : Obj) : OpSt base g n b w (wx.alloc o) x := h.draw ((Ext.refl _ _).alloc o) (h.stm.alloc o)
theorem OpSt.less {base g n m b : Nat} {w wx : World} {x : Ins} (h : OpSt base g n b w wx x) (hm : m ≤ n) : OpSt base g m b w wx x := ⟨h.ext, h.stm.less hm, h.ins, h.bg, h.bas, h.new⟩

/-- The coder's cells in every world in which only the stream has turned. -/
theorem CdrAt.cells {w : World} {base bc g gc n c : Nat} {cm : CM} {v : Value} {l : List Ins} (h : CdrAt w base bc g gc n c cm v l) : ∀ w', Ext [g] w w' → ∀ i, w'.cell? ⟨gc, i, none⟩ = (cdrCells g cm v)[i]? :=
  fun _ hE => (h.blk.ext hE (by have := h.gb; have := h.bb; simp; omega)).cell

theorem Drawn.less {base g n m : Nat} {w : World} {R R' : Int → Prop} (hn : m ≤ n) (hR : ∀ r, R r → R' r) : ∀ e w', Drawn base g n w R e w' → Drawn base g m w R' e w' :=
  fun _ _ ⟨r, he, h1, h2, h3⟩ => ⟨r, he, hR r h1, h2, h3.less hn⟩

section
variable {P : Program} {ops : Array Oper} {S : Nat → Option Spec} {Q : Act → World → Prop} {k : Nat} {o : Oper} {rest : List Oper} {a : Act} {F : Nat → World → Prop} {base g n : Nat} {w0 : World}
/-- A call that draws a number. -/
theorem rel_draw (hS : S k = some sAny) (hw : Region.wanted o (yielded ops a.tmps) = true)
    (hh : ∃ (f : FuncId) (args : Array Value), (∀ w, (execOp a.eval o).run P w = .ok (.enter f args) w) ∧
      ∀ w n', Stm w base g (n + 3 * n' + 3) → Ext [g] w0 w → ∃ m R', n + 3 * n' ≤ m ∧ Calls P f args w (Drawn base g m w R'))
    (h : ∀ x : Int, relAt P ops (JS base g n w0) (Ext [g]) S Q (k + 1) rest (a.put o.dst (.int .i64 x)) (upd F k (fun _ => True))) : relAt P ops (JS base g n w0) (Ext [g]) S Q k (o :: rest) a F := by
  obtain ⟨f, args, hr, hu⟩ := hh
  refine relAt_call sAny hS hw ⟨f, args, hr, fun w n' hJ _ => ?_⟩ h
  obtain ⟨m, R', hm, hc⟩ := hu w n' hJ.stm hJ.1
  refine hc.mono ?_
  rintro e w' ⟨r, rfl, _, hE, hS'⟩
  exact ⟨r, rfl, trivial, hJ.step hE hS' hm, hE⟩
/-- A call that draws a bool. -/
theorem rel_flip (hS : S k = some sBool) (hw : Region.wanted o (yielded ops a.tmps) = true)
    (hh : ∃ (f : FuncId) (args : Array Value), (∀ w, (execOp a.eval o).run P w = .ok (.enter f args) w) ∧
      ∀ w n', Stm w base g (n + 3 * n' + 3) → Ext [g] w0 w → ∃ m, n + 3 * n' ≤ m ∧ Calls P f args w (Flipped base g m w))
    (h : ∀ x : Bool, relAt P ops (JS base g n w0) (Ext [g]) S Q (k + 1) rest (a.put o.dst (.bool x)) (upd F k (fun _ => True))) : relAt P ops (JS base g n w0) (Ext [g]) S Q k (o :: rest) a F := by
  obtain ⟨f, args, hr, hu⟩ := hh
  refine relAt_call sBool hS hw ⟨f, args, hr, fun w n' hJ _ => ?_⟩ h
  obtain ⟨m, hm, hc⟩ := hu w n' hJ.stm hJ.1
  refine hc.mono ?_
  rintro e w' ⟨r, rfl, hE, hS'⟩
  exact ⟨r, rfl, trivial, hJ.step hE hS' hm, hE⟩
/-- A slice of numbers is laid. -/
theorem rel_nums (m : Nat) (xs : List Int) (hS : S k = some (sNums m g)) (hw : Region.wanted o (yielded ops a.tmps) = true) (hm : xs.length = m)
    (hh : ∀ w, (execOp a.eval o).run P w = .ok (.value (.slice (some ⟨w.heap.size, 0, none⟩) m m)) (w.alloc (.cells (Nums xs) 3)))
    (h : ∀ b : Nat, relAt P ops (JS base g n w0) (Ext [g]) S Q (k + 1) rest (a.put o.dst (.slice (some ⟨b, 0, none⟩) m m)) (upd F k ((sNums m g).V b))) : relAt P ops (JS base g n w0) (Ext [g]) S Q k (o :: rest) a F := by
  refine relAt_value (sNums m g) hS hw (fun w n' hJ _ => ?_) h
  have hE : Ext [g] w (w.alloc (.cells (Nums xs) 3)) := (Ext.refl _ _).alloc _
  have hgw := hJ.2.lt
  refine ⟨w.heap.size, _, hh w, ⟨xs, hm, Blk.new _ _ _, by omega⟩, hJ.step hE (hJ.2.alloc _) (by omega), hE⟩
/-- A pick out of the slice that operation j has laid. -/
theorem rel_pick (j b m : Nat) (hS : S k = some sAny) (hw : Region.wanted o (yielded ops a.tmps) = true) (hj : o.after.any (fun e => Region.binds .any e && e.on == j) = true) (hF : F j = (sNums m g).V b) (hm : 0 < m ∧ m ≤ 1000)
    (hh : ∀ w, (execOp a.eval o).run Try.prog w = .ok (.enter 8 #[.pointer (some ⟨g, 0, none⟩), .slice (some ⟨b, 0, none⟩) m m]) w)
    (h : ∀ x : Int, relAt Try.prog ops (JS base g n w0) (Ext [g]) S Q (k + 1) rest (a.put o.dst (.int .i64 x)) (upd F k (fun _ => True))) : relAt Try.prog ops (JS base g n w0) (Ext [g]) S Q k (o :: rest) a F := by
  refine relAt_call sAny hS hw ⟨_, _, hh, fun w n' hJ hf => ?_⟩ h
  obtain ⟨e, he, hb⟩ := Array.any_eq_true'.1 hj
  simp only [Bool.and_eq_true, beq_iff_eq] at hb
  have hv := hf e he hb.1
  rw [hb.2, hF] at hv
  obtain ⟨xs, hx, hB, hbg⟩ := hv
  have hp := pick_any base g (n + 3 * n' + 2) b m 3 xs w hJ.stm hB hbg (by omega)
  rw [hx] at hp
  refine hp.mono ?_
  rintro e w' ⟨r, rfl, _, hE, hS'⟩
  exact ⟨r, rfl, trivial, hJ.step hE hS' (by omega), hE⟩
/-- A call that draws a number below m. -/
theorem rel_below (m : Int) (hm : 1 ≤ m) (hS : S k = some (sBelow m)) (hw : Region.wanted o (yielded ops a.tmps) = true)
    (hh : ∃ (f : FuncId) (args : Array Value), (∀ w, (execOp a.eval o).run P w = .ok (.enter f args) w) ∧
      ∀ w n', Stm w base g (n + 3 * n' + 3) → Ext [g] w0 w → ∃ q, n + 3 * n' ≤ q ∧ Calls P f args w (Drawn base g q w fun r => 0 ≤ r ∧ (1 ≤ m → r < m)))
    (h : ∀ x : Int, relAt P ops (JS base g n w0) (Ext [g]) S Q (k + 1) rest (a.put o.dst (.int .i64 x)) (upd F k ((sBelow m).V x))) : relAt P ops (JS base g n w0) (Ext [g]) S Q k (o :: rest) a F := by
  obtain ⟨f, args, hr, hu⟩ := hh
  refine relAt_call (sBelow m) hS hw ⟨f, args, hr, fun w n' hJ _ => ?_⟩ h
  obtain ⟨q, hq, hc⟩ := hu w n' hJ.stm hJ.1
  refine hc.mono ?_
  rintro e w' ⟨r, rfl, hr, hE, hS'⟩
  exact ⟨r, rfl, ⟨hr.1, hr.2 hm⟩, hJ.step hE hS' hq, hE⟩
/-- A slice of instructions is laid. -/
theorem rel_inss (m : Nat) (xs : List Ins) (hS : S k = some (sInss m g)) (hw : Region.wanted o (yielded ops a.tmps) = true) (hm : xs.length = m)
    (hh : ∀ w, (execOp a.eval o).run P w = .ok (.value (.slice (some ⟨w.heap.size, 0, none⟩) m m)) (w.alloc (.cells (codeCells xs).toArray 64)))
    (h : ∀ b : Nat, relAt P ops (JS base g n w0) (Ext [g]) S Q (k + 1) rest (a.put o.dst (.slice (some ⟨b, 0, none⟩) m m)) (upd F k ((sInss m g).V b))) : relAt P ops (JS base g n w0) (Ext [g]) S Q k (o :: rest) a F := by
  refine relAt_value (sInss m g) hS hw (fun w n' hJ _ => ?_) h
  have hE : Ext [g] w (w.alloc (.cells (codeCells xs).toArray 64)) := (Ext.refl _ _).alloc _
  have hgw := hJ.2.lt
  refine ⟨w.heap.size, _, hh w, ⟨xs, hm, Blk.new _ _ _, by omega⟩, hJ.step hE (hJ.2.alloc _) (by omega), hE⟩
theorem codeCells_get (xs : List Ins) (i : Nat) (x : Ins) (hx : xs[i]? = some x) (j : Nat) (u : Value) (hu : x.cells[j]? = some u) : (codeCells xs)[i * 9 + j]? = some u := by
  have hj : j < 9 := by have := (List.getElem?_eq_some_iff.1 hu).1; simpa [Ins.cells] using this
  induction xs generalizing i with
  | nil => simp at hx
  | cons y ys ih =>
    have hcons : codeCells (y :: ys) = y.cells ++ codeCells ys := by simp [codeCells]
    rw [hcons]
    cases i with
    | zero =>
      simp at hx
      subst hx
      rw [List.getElem?_append_left (by simp [Ins.cells]; omega)]
      simpa using hu
    | succ i =>
      rw [List.getElem?_append_right (by simp [Ins.cells]; omega)]
      have : (i + 1) * 9 + j - y.cells.length = i * 9 + j := by simp [Ins.cells]; omega
      rw [this]
      exact ih i (by simpa using hx)
/-- The place of an element of a slice of instructions. -/
theorem rel_ptr (j jr b m : Nat) (r : Int) (hS : S k = some (sPtr g)) (hw : Region.wanted o (yielded ops a.tmps) = true) (hj : o.after.any (fun e => Region.binds .any e && e.on == j) = true) (hF : F j = (sInss m g).V b)
    (hjr : o.after.any (fun e => Region.binds .any e && e.on == jr) = true) (hFr : F jr = (sBelow m).V r)
    (hh : ∀ w, 0 ≤ r → r < m → (execOp a.eval o).run P w = .ok (.value (.pointer (some ⟨b, r.toNat * 9, none⟩))) w)
    (h : ∀ p : Nat × Nat, relAt P ops (JS base g n w0) (Ext [g]) S Q (k + 1) rest (a.put o.dst (.pointer (some ⟨p.1, p.2, none⟩))) (upd F k ((sPtr g).V p))) : relAt P ops (JS base g n w0) (Ext [g]) S Q k (o :: rest) a F := by
  refine relAt_value (sPtr g) hS hw (fun w n' hJ hf => ?_) h
  obtain ⟨e, he, hb⟩ := Array.any_eq_true'.1 hj
  simp only [Bool.and_eq_true, beq_iff_eq] at hb
  have hv := hf e he hb.1
  rw [hb.2, hF] at hv
  obtain ⟨e', he', hb'⟩ := Array.any_eq_true'.1 hjr
  simp only [Bool.and_eq_true, beq_iff_eq] at hb'
  have hvr := hf e' he' hb'.1
  rw [hb'.2, hFr] at hvr
  obtain ⟨xs, hx, hB, hbg⟩ := hv
  obtain ⟨r0, r1⟩ := hvr
  have hlt : r.toNat < xs.length := by omega
  refine ⟨(b, r.toNat * 9), w, hh w r0 r1, ⟨⟨xs[r.toNat], fun i u hu => ?_⟩, hbg⟩, JS.less _ _ hJ, Ext.refl _ _⟩
  rw [hB.cell]
  simpa using codeCells_get xs r.toNat _ (List.getElem?_eq_getElem hlt) i u hu
/-- An instruction is loaded from its place. -/
theorem rel_ins (j : Nat) (p : Nat × Nat) (hS : S k = some sIns) (hw : Region.wanted o (yielded ops a.tmps) = true) (hj : o.after.any (fun e => Region.binds .any e && e.on == j) = true) (hF : F j = (sPtr g).V p)
    (hh : ∀ w (x : Ins), (∀ i u, x.cells[i]? = some u → w.cell? ⟨p.1, p.2 + i, none⟩ = some u) → (execOp a.eval o).run P w = .ok (.value (.agg x.cells.toArray)) w)
    (h : ∀ x : Ins, relAt P ops (JS base g n w0) (Ext [g]) S Q (k + 1) rest (a.put o.dst (.agg x.cells.toArray)) (upd F k (fun _ => True))) : relAt P ops (JS base g n w0) (Ext [g]) S Q k (o :: rest) a F := by
  refine relAt_value sIns hS hw (fun w n' hJ hf => ?_) h
  obtain ⟨e, he, hb⟩ := Array.any_eq_true'.1 hj
  simp only [Bool.and_eq_true, beq_iff_eq] at hb
  have hv := hf e he hb.1
  rw [hb.2, hF] at hv
  obtain ⟨⟨x, hx⟩, _⟩ := hv
  exact ⟨x, w, hh w x hx, trivial, JS.less _ _ hJ, Ext.refl _ _⟩
/-- A block for one value is laid. -/
theorem rel_blk (t : TypeId) (cs : Array Value) (lo : Nat) (hS : S k = some (sBlk t cs g lo)) (hlo : lo ≤ w0.heap.size) (hw : Region.wanted o (yielded ops a.tmps) = true)
    (hh : ∀ w, (execOp a.eval o).run P w = .ok (.value (.pointer (some ⟨w.heap.size, 0, none⟩))) (w.alloc (.cells cs t)))
    (h : ∀ b : Nat, relAt P ops (JS base g n w0) (Ext [g]) S Q (k + 1) rest (a.put o.dst (.pointer (some ⟨b, 0, none⟩))) (upd F k ((sBlk t cs g lo).V b))) : relAt P ops (JS base g n w0) (Ext [g]) S Q k (o :: rest) a F := by
  refine relAt_value (sBlk t cs g lo) hS hw (fun w n' hJ _ => ?_) h
  have hE : Ext [g] w (w.alloc (.cells cs t)) := (Ext.refl _ _).alloc _
  have hgw := hJ.2.lt
  exact ⟨w.heap.size, _, hh w, ⟨Blk.new _ _ _, by omega, by have := hJ.1.size; omega⟩, hJ.step hE (hJ.2.alloc _) (by omega), hE⟩
end
end Go.Proofs.Ytedabpldigcffaa
