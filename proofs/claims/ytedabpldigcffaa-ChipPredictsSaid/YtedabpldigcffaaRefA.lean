/- The specification's fields of an instruction (fieldsOf, operandFields). -/
import Derived.Test.YtedabpldigcffaaCheckF
import Derived.Test.YtedabpldigcffaaDraw
namespace Go.Proofs.Ytedabpldigcffaa
open Go.RowKit
set_option linter.unusedSimpArgs false
set_option linter.unusedVariables false

def JE (w0 : World) (_ : Nat) (w : World) : Prop := Ext [] w0 w
theorem JE.less {w0 : World} (k : Nat) (w : World) (h : JE w0 (k + 1) w) : JE w0 k w := h
theorem JE.start {w0 : World} {p : Nat} : JE w0 p w0.drew := (Ext.refl _ _).drew
/-- A value that is known. -/
def sFix (v : Value) : Spec := ⟨Unit, (), fun _ => v, fun _ _ => True⟩
theorem sFix.stays {v : Value} {R : World → World → Prop} : ∀ y w w', R w w' → (sFix v).V y w → (sFix v).V y w' := fun _ _ _ _ h => h
theorem rel_fix {P : Program} {ops : Array Oper} {S : Nat → Option Spec} {w0 : World} {k : Nat} {o : Oper} {rest : List Oper} {a : Act} {F : Nat → World → Prop} {Q : Act → World → Prop} {v : Value}
    (hS : S k = some (sFix v)) (hw : Region.wanted o (yielded ops a.tmps) = true)
    (hh : ∃ (f : FuncId) (args : Array Value), (∀ w, (execOp a.eval o).run P w = .ok (.enter f args) w) ∧ ∀ w (_ : Nat), Ext [] w0 w → Calls P f args w fun e w' => e = .returned v ∧ Ext [] w w')
    (h : relAt P ops (JE w0) (Ext []) S Q (k + 1) rest (a.put o.dst v) (upd F k (fun _ => True))) : relAt P ops (JE w0) (Ext []) S Q k (o :: rest) a F := by
  obtain ⟨f, args, hr, hu⟩ := hh
  refine relAt_call (sFix v) hS hw ⟨f, args, hr, fun w n' hJ _ => ?_⟩ (fun _ => h)
  refine (hu w n' hJ).mono ?_
  rintro e w' ⟨rfl, hE⟩
  exact ⟨(), rfl, trivial, Ext.trans hJ hE, hE⟩

/-- A field that an instruction uses. -/
structure Fld where
  name : Int
  kind : ByteArray
  low : Int
  high : Int
def Fld.cells (f : Fld) : List Value := [.int .u8 f.name, .string f.kind, .int .i64 f.low, .int .i64 f.high]
def fldCells (l : List Fld) : List Value := l.flatMap Fld.cells
theorem fldCells_length (l : List Fld) : (fldCells l).length = l.length * 4 := by
  induction l with
  | nil => rfl
  | cons x l ih => simp only [fldCells, List.flatMap_cons, List.length_append] at ih ⊢; rw [ih]; simp [Fld.cells]; omega
theorem fldCells_append (l l' : List Fld) : fldCells (l ++ l') = fldCells l ++ fldCells l' := by simp [fldCells]
theorem fldCells_get (xs : List Fld) (i : Nat) (x : Fld) (hx : xs[i]? = some x) (j : Nat) (u : Value) (hu : x.cells[j]? = some u) : (fldCells xs)[i * 4 + j]? = some u := by
  have hj : j < 4 := (List.getElem?_eq_some_iff.1 hu).1
  induction xs generalizing i with
  | nil => simp at hx
  | cons y ys ih =>
    cases i with
    | zero =>
      simp only [List.getElem?_cons_zero, Option.some.injEq] at hx
      subst hx
      rw [Nat.zero_mul, Nat.zero_add]
      show (y.cells ++ fldCells ys)[j]? = _
      rw [List.getElem?_append_left (by simpa [Fld.cells] using hj)]
      exact hu
    | succ i =>
      show (y.cells ++ fldCells ys)[(i + 1) * 4 + j]? = _
      rw [List.getElem?_append_right (by simp [Fld.cells]; omega)]
      have : (i + 1) * 4 + j - y.cells.length = i * 4 + j := by simp [Fld.cells]; omega
      rw [this]
      exact ih i (by simpa using hx)

/-- The slice's cells from A on read as the fields fs. -/
def RdF (w : World) (A : Option Addr) (fs : List Fld) : Prop :=
  fs = [] ∨ ∃ b o, A = some ⟨b, o, none⟩ ∧ ∀ k x, fs[k]? = some x → ∀ j v, x.cells[j]? = some v → w.cell? ⟨b, o + k * 4 + j, none⟩ = some v
theorem RdF.ext {S : List Nat} {w w' : World} {A : Option Addr} {fs : List Fld} (h : RdF w A fs) (hE : Ext S w w') (hS : ∀ a, A = some a → a.block ∉ S) : RdF w' A fs := by
  rcases h with h | ⟨b, o, rfl, h⟩
  · exact .inl h
  · exact .inr ⟨b, o, rfl, fun k x hx j v hv => hE.held (h k x hx j v hv) (show b ∉ S from hS ⟨b, o, none⟩ rfl)⟩
theorem RdF.blk {w : World} {b : Nat} {t : TypeId} {fs : List Fld} (h : Blk w b t (fldCells fs).toArray) : RdF w (some ⟨b, 0, none⟩) fs :=
  .inr ⟨b, 0, rfl, fun k x hx j v hv => by rw [Nat.zero_add, h.cell]; simpa using fldCells_get fs k x hx j v hv⟩
theorem RdF.own {w : World} {base b cap : Nat} {t : TypeId} {fs : List Fld} (h : w.ownsRow base t 4 (.slice (some ⟨b, 0, none⟩) fs.length cap) fs.length (fldCells fs)) : RdF w (some ⟨b, 0, none⟩) fs :=
  .inr ⟨b, 0, rfl, fun k x hx j v hv => by
    have h2 := fldCells_get fs k x hx j v hv
    rw [Nat.zero_add, h.cellAt _ (by have := (List.getElem?_eq_some_iff.1 h2).1; rw [fldCells_length] at this; exact this)]
    exact h2⟩

/-- What fieldsOf answers. -/
def FieldsPost (fs : List Fld) (w : World) (e : Ending) (w' : World) : Prop := ∃ A cap, e = .returned (.slice A fs.length cap) ∧ RdF w' A fs ∧ Ext [] w w'
/-- A register's field: r or v. -/
def fldR (c : Int) : Fld := ⟨c, ⟨#[114]⟩, 0, 15⟩
def fldV (c : Int) : Fld := ⟨c, ⟨#[118]⟩, 0, 7⟩
theorem results_fld {fn : Func} {p : Tmp} (h : fn.results = #[.cell p 142]) (tmps : Array Value) (w : World) (g : Nat) (x : Fld)
    (hp : tmps.getD p undef = .pointer (some ⟨g, 0, none⟩)) (hg : Blk w g 142 x.cells.toArray) : (results fn tmps).run Try.prog w = .ok (.agg x.cells.toArray) w :=
  results_cell_row h tmps w g _ x.cells.toArray (0, 0) _ hp hg Try.underlying142 rfl (by kernel_rfl)
theorem fldR_any (c : Int) (w : World) : Calls Try.prog 113 #[.int .u8 c] w fun e w' => e = .returned (.agg #[.int .u8 c, .string ⟨#[114]⟩, .int .i64 0, .int .i64 15]) ∧ Ext [] w w' := by
  go_enter Try.func113, Try.ntmps113
  go_wp2_with fail
  exact bodyPost_ret (results_fld rfl _ _ w.heap.size (fldR c) rfl (Blk.new _ _ _)) rfl ⟨rfl, (Ext.refl _ _).alloc _⟩
theorem fldV_any (c : Int) (w : World) : Calls Try.prog 114 #[.int .u8 c] w fun e w' => e = .returned (.agg #[.int .u8 c, .string ⟨#[118]⟩, .int .i64 0, .int .i64 7]) ∧ Ext [] w w' := by
  go_enter Try.func114, Try.ntmps114
  go_wp2_with fail
  exact bodyPost_ret (results_fld rfl _ _ w.heap.size (fldV c) rfl (Blk.new _ _ _)) rfl ⟨rfl, (Ext.refl _ _).alloc _⟩
theorem isOp_any (k : Int) (w : World) : Calls Try.prog 99 #[.int .i64 k] w fun e w' => e = .returned (.bool (inR k 4 15)) ∧ w = w' := by
  go_enter Try.func99, Try.ntmps99
  go_wp2_with fail
  refine (within2_any _ _ _ _).mono ?_
  rintro e w' ⟨rfl, rfl⟩
  go_wp2_with fail
  go_ret
  exact ⟨rfl, rfl⟩
def opdN (k : Int) : Int := if k = 15 then 3 else if 11 ≤ k then 1 else 2
theorem opds_any (k : Int) (w : World) : Calls Try.prog 110 #[.int .i64 k] w fun e w' => e = .returned (.int .i64 (opdN k)) ∧ w = w' := by
  by_cases h1 : k = 15
  · have h2 : (k == 15) = true := by simpa using h1
    have H : Hd (opdN k = 3) := hd (by simp [opdN, h1])
    clear h1
    go_enter Try.func110, Try.ntmps110
    go_wp2_with fail
    go_ret
    exact ⟨ret_int H.out.symm, rfl⟩
  · have h2 : (k == 15) = false := by simpa using h1
    by_cases h3 : 11 ≤ k
    · have H : Hd (opdN k = 1) := hd (by simp [opdN, h1, h3])
      clear h1
      go_enter Try.func110, Try.ntmps110
      go_wp2_with fail
      go_ret
      exact ⟨ret_int H.out.symm, rfl⟩
    · have H : Hd (opdN k = 2) := hd (by simp [opdN, h1, h3])
      clear h1
      go_enter Try.func110, Try.ntmps110
      go_wp2_with fail
      go_ret
      exact ⟨ret_int H.out.symm, rfl⟩
end Go.Proofs.Ytedabpldigcffaa
