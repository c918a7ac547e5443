/- Plain lemmas on worlds: which blocks may have turned between two worlds (Ext), a block that is known whole (Blk). No program is named here; no condition. -/
import Derived.Test.YtgbjlccgnfcnaaaGreatRows
import Derived.WalkKit
import Derived.WalkSpells
import Derived.WalkLawsBesides
import Derived.KernelRfl
import Derived.Lib.Hide
import Derived.Deep.Draws
import Derived.Deep.QuietTactic
import Derived.BigQuiet
namespace Go.Proofs.YtgbjlccgnfcnaaaGreat
open Go.RowKit

/-- Between w and w' only the blocks of S may have turned, and new ones have come. -/
structure Ext (S : List Nat) (w w' : World) : Prop where
  os : w'.os = w.os
  tape : w'.tape = w.tape
  output : w'.output = w.output
  size : w.heap.size ≤ w'.heap.size
  block : ∀ k, k < w.heap.size → k ∉ S → w'.heap[k]? = w.heap[k]?

theorem Ext.refl (S : List Nat) (w : World) : Ext S w w := ⟨rfl, rfl, rfl, Nat.le_refl _, fun _ _ _ => rfl⟩
theorem Ext.step {S T : List Nat} {a b c : World} (h : Ext S a b) (k : Ext T b c) (hT : ∀ x, x ∈ T → x ∈ S ∨ a.heap.size ≤ x) : Ext S a c :=
  ⟨k.os.trans h.os, k.tape.trans h.tape, k.output.trans h.output, Nat.le_trans h.size k.size, fun i hi hn =>
    (k.block i (Nat.lt_of_lt_of_le hi h.size) (fun hx => by rcases hT i hx with h1 | h1; exact hn h1; omega)).trans (h.block i hi hn)⟩
theorem Ext.trans {S : List Nat} {a b c : World} (h : Ext S a b) (k : Ext S b c) : Ext S a c := h.step k fun _ hx => .inl hx
theorem Ext.mono {S T : List Nat} {a b : World} (h : Ext S a b) (hT : ∀ x, x ∈ S → x ∈ T ∨ a.heap.size ≤ x) : Ext T a b := (Ext.refl T a).step h hT
theorem Ext.drew {S : List Nat} {a w : World} (h : Ext S a w) : Ext S a w.drew := ⟨h.os, h.tape, h.output, h.size, h.block⟩
theorem Ext.drewN {S : List Nat} {a w : World} (h : Ext S a w) (n : Nat) : Ext S a (w.drewN n) := ⟨h.os, h.tape, h.output, h.size, h.block⟩
theorem Ext.alloc {S : List Nat} {a w : World} (h : Ext S a w) (o : Obj) : Ext S a (w.alloc o) :=
  ⟨h.os, h.tape, h.output, Nat.le_trans h.size (by simp), fun i hi hn => (Below.heap_alloc w o i (Nat.lt_of_lt_of_le hi h.size)).trans (h.block i hi hn)⟩
theorem Ext.setCell {S : List Nat} {a w : World} (h : Ext S a w) {p : Addr} (hp : p.block ∈ S ∨ a.heap.size ≤ p.block) (u : Value) : Ext S a (w.setCell p u) :=
  ⟨h.os, h.tape, h.output, by simpa [World.setCell] using h.size, fun i hi hn => (Below.heap_setCell w p u i (by
    rintro rfl
    rcases hp with hp | hp
    · exact hn hp
    · omega)).trans (h.block i hi hn)⟩
theorem Ext.setAt {S : List Nat} {a w : World} {b i : Nat} {u : Value} (hb : b ∈ S ∨ a.heap.size ≤ b) (h : Ext S a w) : Ext S a (w.setCell ⟨b, i, none⟩ u) := h.setCell hb u
theorem Ext.grown {S : List Nat} {a w w' : World} {row : Option Nat} (h : Ext S a w) (hg : w.grownBy w' row) (hr : ∀ k, row = some k → k ∈ S ∨ a.heap.size ≤ k) : Ext S a w' :=
  ⟨hg.os.trans h.os, hg.tape.trans h.tape, hg.output.trans h.output, Nat.le_trans h.size hg.size, fun i hi hn =>
    (hg.block i (Nat.lt_of_lt_of_le hi h.size) (fun e => by rcases hr i e.symm with h1 | h1; exact hn h1; omega)).trans (h.block i hi hn)⟩
theorem Ext.cell {S : List Nat} {w w' : World} (h : Ext S w w') {p : Addr} (hp : p.block < w.heap.size) (hn : p.block ∉ S) : w'.cell? p = w.cell? p :=
  World.cell?_of_block (w := w) (h.block p.block hp hn)
theorem Ext.frozen {S : List Nat} {w w' : World} (h : Ext S w w') {p : Addr} (hp : p.block < w.heap.size) (hn : p.block ∉ S) : w'.frozen? p = w.frozen? p :=
  World.frozen?_of_block (w := w) (h.block p.block hp hn)
theorem Ext.below {w w' : World} (h : Ext [] w w') : Below w.heap.size w w' := ⟨h.os, h.tape, h.output, h.size, fun k hk => h.block k hk (by simp)⟩
theorem Ext.of_below {w w' : World} (h : Below w.heap.size w w') (S : List Nat) : Ext S w w' := ⟨h.os, h.tape, h.output, h.size, fun k hk _ => h.block k hk⟩
theorem Ext.nil {S : List Nat} {w w' : World} (h : Ext [] w w') : Ext S w w' := h.mono (by simp)
/-- An old cell still holds what it held. -/
theorem Ext.held {S : List Nat} {w w' : World} (h : Ext S w w') {p : Addr} {v : Value} (hp : w.cell? p = some v) (hn : p.block ∉ S) : w'.cell? p = some v :=
  (h.cell (World.block_lt_of_cell? w p hp) hn).trans hp

/-- Block g is just the cells cs of element type t; none of them is frozen. -/
def Blk (w : World) (g : Nat) (t : TypeId) (cs : Array Value) : Prop := w.heap[g]? = some (.cells cs t (0, 0))

section
variable {w w' : World} {g : Nat} {t : TypeId} {cs : Array Value}
theorem Blk.lt (h : Blk w g t cs) : g < w.heap.size := by
  rcases Nat.lt_or_ge g w.heap.size with hlt | hge
  · exact hlt
  · unfold Blk at h; rw [Array.getElem?_eq_none hge] at h; cases h
theorem Blk.cell (h : Blk w g t cs) (i : Nat) : w.cell? ⟨g, i, none⟩ = cs[i]? := cell_of_row w g i cs t (0, 0) h
theorem Blk.frozen (h : Blk w g t cs) (i : Nat) : w.frozen? ⟨g, i, none⟩ = false := by
  unfold Blk at h; simp [World.frozen?, h]
/-- What the walk wants of a block: its cells, and that they may be written. -/
theorem Blk.both (h : Blk w g t cs) : (∀ i, w.cell? ⟨g, i, none⟩ = cs[i]?) ∧ (∀ i, w.frozen? ⟨g, i, none⟩ = false) := ⟨h.cell, h.frozen⟩
theorem Blk.new (w : World) (t : TypeId) (cs : Array Value) : Blk (w.alloc (.cells cs t)) w.heap.size t cs := by
  show (w.heap.push _)[w.heap.size]? = _
  simp
theorem Blk.new' (w : World) (t : TypeId) (cs : Array Value) (n : Nat) (hn : n = w.heap.size) : Blk (w.alloc (.cells cs t)) n t cs := by
  subst hn; exact Blk.new w t cs
theorem Blk.drew (h : Blk w g t cs) : Blk w.drew g t cs := h
theorem Blk.drewN (h : Blk w g t cs) (n : Nat) : Blk (w.drewN n) g t cs := h
theorem Blk.alloc (h : Blk w g t cs) (o : Obj) : Blk (w.alloc o) g t cs := (Below.heap_alloc w o g h.lt).trans h
theorem Blk.set_ (h : Blk w g t cs) (i : Nat) (u : Value) : Blk (w.setCell ⟨g, i, none⟩ u) g t (cs.setIfInBounds i u) := by
  unfold Blk at h ⊢
  simp [World.setCell, Array.getElem?_modify, h]
theorem Blk.set_' (h : Blk w g t cs) (i : Nat) (u : Value) (cs' : Array Value) (e : cs.setIfInBounds i u = cs') : Blk (w.setCell ⟨g, i, none⟩ u) g t cs' := e ▸ h.set_ i u
theorem Blk.far (h : Blk w g t cs) {p : Addr} (hp : g ≠ p.block) (u : Value) : Blk (w.setCell p u) g t cs := (Below.heap_setCell w p u g hp).trans h
theorem Blk.ext {S : List Nat} (h : Blk w g t cs) (hb : Ext S w w') (hg : g ∉ S) : Blk w' g t cs := (hb.block g h.lt hg).trans h
end

/-- All nine cells turned. -/
theorem Blk.all9 {w : World} {b : Nat} {t : TypeId} {x0 x1 x2 x3 x4 x5 x6 x7 x8 : Value} (h : Blk w b t #[x0, x1, x2, x3, x4, x5, x6, x7, x8]) (y0 y1 y2 y3 y4 y5 y6 y7 y8 : Value) :
    Blk (((((((((w.setCell ⟨b, 0, none⟩ y0).setCell ⟨b, 1, none⟩ y1).setCell ⟨b, 2, none⟩ y2).setCell ⟨b, 3, none⟩ y3).setCell ⟨b, 4, none⟩ y4).setCell ⟨b, 5, none⟩ y5).setCell ⟨b, 6, none⟩ y6).setCell ⟨b, 7, none⟩ y7).setCell ⟨b, 8, none⟩ y8) b t #[y0, y1, y2, y3, y4, y5, y6, y7, y8] := by
  have h0 := h.set_' 0 y0 #[y0, x1, x2, x3, x4, x5, x6, x7, x8] rfl
  have h1 := h0.set_' 1 y1 #[y0, y1, x2, x3, x4, x5, x6, x7, x8] rfl
  have h2 := h1.set_' 2 y2 #[y0, y1, y2, x3, x4, x5, x6, x7, x8] rfl
  have h3 := h2.set_' 3 y3 #[y0, y1, y2, y3, x4, x5, x6, x7, x8] rfl
  have h4 := h3.set_' 4 y4 #[y0, y1, y2, y3, y4, x5, x6, x7, x8] rfl
  have h5 := h4.set_' 5 y5 #[y0, y1, y2, y3, y4, y5, x6, x7, x8] rfl
  have h6 := h5.set_' 6 y6 #[y0, y1, y2, y3, y4, y5, y6, x7, x8] rfl
  have h7 := h6.set_' 7 y7 #[y0, y1, y2, y3, y4, y5, y6, y7, x8] rfl
  have h8 := h7.set_' 8 y8 #[y0, y1, y2, y3, y4, y5, y6, y7, y8] rfl
  exact h8

/-- A fact that no tactic looks into. -/
def Hd (p : Prop) : Prop := p
theorem hd {p : Prop} (h : p) : Hd p := h
theorem Hd.out {p : Prop} (h : Hd p) : p := h
theorem Hd.o {p : Prop} (h : Hd p) : p := h
attribute [irreducible] Hd

theorem er {S : List Nat} {w : World} : Ext S w w := Ext.refl S w
theorem ms {α : Type} {a b : α} (h : a ∈ [b]) : a = b := List.mem_singleton.1 h
theorem nl {a b c : Nat} (h : a < b) (k : b ≤ c) : a < c := Nat.lt_of_lt_of_le h k
theorem nt {a b c : Nat} (h : a ≤ b) (k : b ≤ c) : a ≤ c := Nat.le_trans h k
theorem ijp {c : Prop} {i : Decidable c} (h : c) {α : Type} {t e : α} : ite c t e = t := if_pos h
theorem ijn {c : Prop} {i : Decidable c} (h : ¬c) {α : Type} {t e : α} : ite c t e = e := if_neg h
theorem ils {α : Type} {l : List α} {i : Nat} {a : α} (h : l[i]? = some a) : ∃ h : i < l.length, l[i] = a := List.getElem?_eq_some_iff.1 h
theorem ilm {α : Type} {l : List α} {i : Nat} {a : α} (h : l[i]? = some a) : a ∈ l := List.mem_of_getElem? h
theorem Addr.add_mk (b o i : Nat) : (⟨b, o, none⟩ : Addr).add i = ⟨b, o + i, none⟩ := by
  unfold Addr.add; split <;> simp_all
theorem Addr.add_block (a : Addr) (i : Nat) : (a.add i).block = a.block := by unfold Addr.add; split <;> rfl

theorem wrap64_bd (x : Int) : -9223372036854775808 ≤ wrap64 x ∧ wrap64 x ≤ 9223372036854775807 := by
  unfold wrap64; omega
theorem tmod_lo (x n : Int) (hn : 1 ≤ n) : -n < x.tmod n := by
  by_cases h : x < 0
  · have h1 : x = -(-x) := by omega
    rw [h1, Int.neg_tmod]
    have := Int.tmod_lt_of_pos (-x) (b := n) (by omega)
    omega
  · have := Int.tmod_nonneg n (Int.not_lt.1 h); omega
theorem tmod_hi (x n : Int) (hn : 1 ≤ n) : x.tmod n < n := Int.tmod_lt_of_pos _ (by omega)
theorem ret_int {k : IntKind} {a b : Int} (h : a = b) : Ending.returned (.int k a) = .returned (.int k b) := by rw [h]
theorem ret_bool {a b : Bool} (h : a = b) : Ending.returned (.bool a) = .returned (.bool b) := by rw [h]

/-- The ints xs as cells. -/
def Nums (xs : List Int) : Array Value := (xs.map (Value.int .i64)).toArray
/-- A value is laid into a slot. -/
theorem PT : (∀ (a : Act) (d : Tmp) (v : Value), a.put (some d) v = { a with tmps := a.tmps.setIfInBounds d v }) ∧ (∀ (a : Act) (v : Value), a.put none v = a) ∧ (∀ (l : List Value) (i : Nat) (x : Value), l.toArray.setIfInBounds i x = (l.set i x).toArray) ∧ (∀ (x y : Value) (l : List Value), (x :: l).set 0 y = y :: l) ∧ (∀ (x y : Value) (l : List Value) (n : Nat), (x :: l).set (n + 1) y = x :: l.set n y) :=
  ⟨fun _ _ _ => rfl, fun _ _ => rfl, fun _ _ _ => by simp, fun _ _ _ => rfl, fun _ _ _ _ => rfl⟩
theorem TK : (∀ (x : Oper) (l : List Oper) (n : Nat), (x :: l).take (n + 1) = x :: l.take n) ∧ (∀ l : List Oper, l.take 0 = []) ∧ (∀ (x : Oper) (l : List Oper) (n : Nat), (x :: l).drop (n + 1) = l.drop n) ∧ (∀ l : List Oper, l.drop 0 = l) :=
  ⟨fun _ _ _ => rfl, fun _ => rfl, fun _ _ _ => rfl, fun _ => rfl⟩
/-- Numbers and blocks where values and addresses are asked for. -/
instance iV : Coe Int Value := ⟨fun x => .int .i64 x⟩
instance iN : Coe Nat Value := ⟨fun x => .int .i64 (x : Int)⟩
instance iA : Coe Nat Addr := ⟨fun b => ⟨b, 0, none⟩⟩
/-- An operation's value is found by the walk. -/
theorem CL {p : Prop} (h : p := by ((go_simp; try go_bits); first | rfl | exact ⟨rfl, rfl⟩)) : p := h
end Go.Proofs.YtgbjlccgnfcnaaaGreat
