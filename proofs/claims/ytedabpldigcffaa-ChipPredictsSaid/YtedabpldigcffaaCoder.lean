/- The maker of code: the coder's block, and its method add. Condition: there is room for what is still to be added. -/
import Derived.Test.YtedabpldigcffaaStream
import Derived.Deep.AppendLies
import Derived.Deep.RegionLaw
import Derived.Test.YtedabpldigcffaaRel
namespace Go.Proofs.Ytedabpldigcffaa
open Go.RowKit

/-- An instruction. -/
structure Ins where
  op : Int
  k : Int
  d : Int
  a : Int
  b : Int
  c : Int
  p : Int
  n : Int
  m : Int

def Ins.cells (x : Ins) : List Value := [.int .i64 x.op, .int .i64 x.k, .int .i64 x.d, .int .i64 x.a, .int .i64 x.b, .int .i64 x.c, .int .i64 x.p, .int .i64 x.n, .int .i64 x.m]
/-- The cells of code. -/
def codeCells (l : List Ins) : List Value := l.flatMap Ins.cells
theorem codeCells_length (l : List Ins) : (codeCells l).length = l.length * 9 := by
  induction l with
  | nil => rfl
  | cons x l ih => simp only [codeCells, List.flatMap_cons, List.length_append] at ih ⊢; rw [ih]; simp [Ins.cells]; omega
theorem codeCells_snoc (l : List Ins) (x : Ins) : codeCells (l ++ [x]) = codeCells l ++ x.cells := by simp [codeCells]

/-- The blocks below B but for those of S are as they were. -/
structure Upto (B : Nat) (S : List Nat) (w w' : World) : Prop where
  os : w'.os = w.os
  tape : w'.tape = w.tape
  output : w'.output = w.output
  size : w.heap.size ≤ w'.heap.size
  block : ∀ k, k < B → k ∉ S → w'.heap[k]? = w.heap[k]?
theorem Upto.refl (B : Nat) (S : List Nat) (w : World) : Upto B S w w := ⟨rfl, rfl, rfl, Nat.le_refl _, fun _ _ _ => rfl⟩
theorem Upto.trans {B : Nat} {S : List Nat} {a b c : World} (h : Upto B S a b) (k : Upto B S b c) : Upto B S a c :=
  ⟨k.os.trans h.os, k.tape.trans h.tape, k.output.trans h.output, Nat.le_trans h.size k.size, fun i hi hn => (k.block i hi hn).trans (h.block i hi hn)⟩
theorem Upto.of_ext {B : Nat} {S T : List Nat} {w w' : World} (h : Ext T w w') (hB : B ≤ w.heap.size) (hT : ∀ x, x ∈ T → x ∈ S ∨ B ≤ x) : Upto B S w w' :=
  ⟨h.os, h.tape, h.output, h.size, fun k hk hn => h.block k (by omega) (fun hx => by rcases hT k hx with h1 | h1; exact hn h1; omega)⟩
theorem Upto.ext {S : List Nat} {w w' : World} (h : Upto w.heap.size S w w') : Ext S w w' := ⟨h.os, h.tape, h.output, h.size, h.block⟩
theorem Upto.mono {B C : Nat} {S : List Nat} {w w' : World} (h : Upto B S w w') (hC : C ≤ B) : Upto C S w w' := ⟨h.os, h.tape, h.output, h.size, fun k hk hn => h.block k (by omega) hn⟩
theorem Upto.drew {B : Nat} {S : List Nat} {a w : World} (h : Upto B S a w) : Upto B S a w.drew := ⟨h.os, h.tape, h.output, h.size, h.block⟩
theorem Upto.alloc {B : Nat} {S : List Nat} {a w : World} (h : Upto B S a w) (hB : B ≤ w.heap.size) (o : Obj) : Upto B S a (w.alloc o) :=
  h.trans (Upto.of_ext (T := []) ((Ext.refl _ _).alloc o) hB (by simp))
theorem Upto.setCell {B : Nat} {S : List Nat} {a w : World} (h : Upto B S a w) {p : Addr} (hp : p.block ∈ S ∨ B ≤ p.block) (u : Value) : Upto B S a (w.setCell p u) :=
  ⟨h.os, h.tape, h.output, by simpa [World.setCell] using h.size, fun i hi hn => (Below.heap_setCell w p u i (by
    rintro rfl
    rcases hp with hp | hp
    · exact hn hp
    · omega)).trans (h.block i hi hn)⟩
theorem Upto.grown {B : Nat} {S : List Nat} {a w w' : World} {row : Option Nat} (h : Upto B S a w) (hB : B ≤ w.heap.size) (hg : w.grownBy w' row) (hr : ∀ k, row = some k → k ∈ S ∨ B ≤ k) : Upto B S a w' :=
  ⟨hg.os.trans h.os, hg.tape.trans h.tape, hg.output.trans h.output, Nat.le_trans h.size hg.size, fun i hi hn =>
    (hg.block i (by omega) (fun e => by rcases hr i e.symm with h1 | h1; exact hn h1; omega)).trans (h.block i hi hn)⟩

/-- Two rows of different element types never share a block. -/
theorem own_blk_ne {w : World} {base g : Nat} {e t : TypeId} {size n : Nat} {v : Value} {xs : List Value} {cs : Array Value} (h : w.ownsRow base e size v n xs) (hg : Blk w g t cs) (hne : e ≠ t) : v.ownBlock ≠ some g := by
  rcases h.2 with ⟨rfl, _⟩ | ⟨g', cap, cur, rfl, _, hh, _⟩
  · simp [Value.ownBlock]
  · intro he
    have : g' = g := by simpa [Value.ownBlock] using he
    subst this
    unfold Blk at hg
    rw [hh] at hg
    injection hg with hg
    injection hg with _ ht
    exact hne ht

theorem Blk.grown {w w' : World} {g : Nat} {t : TypeId} {cs : Array Value} {row : Option Nat} (h : Blk w g t cs) (hb : w.grownBy w' row) (hg : row ≠ some g) : Blk w' g t cs := (hb.block g h.lt (fun e => hg e.symm)).trans h

/-- The coder's machine, and how many words are surely set. -/
structure CM where
  m0 : Int
  m1 : Int
  m2 : Int
  m3 : Int
  m4 : Int
  s : Int
/-- The coder's cells. -/
def cdrCells (g : Nat) (cm : CM) (v : Value) : Array Value :=
  #[.pointer (some ⟨g, 0, none⟩), .int .i64 cm.m0, .int .i64 cm.m1, .int .i64 cm.m2, .int .i64 cm.m3, .int .i64 cm.m4, v, .int .i64 cm.s]
/-- Block gc is a coder on the stream g, whose code lies in blocks from bc on; it has n numbers left, and room for c instructions. -/
structure CdrAt (w : World) (base bc g gc n c : Nat) (cm : CM) (v : Value) (l : List Ins) : Prop where
  stm : Stm w base g n
  blk : Blk w gc 120 (cdrCells g cm v)
  own : w.ownsRow bc 64 9 v l.length (codeCells l)
  room : l.length + c ≤ 100000000
  gb : g < bc
  bb : bc ≤ gc
  bas : base ≤ bc
  lan : cm.m3 ≤ 8
  que : cm.m4 ≤ 4
  set : cm.s ≤ 16
def Cdr (w : World) (base bc g gc n c : Nat) (cm : CM) : Prop := ∃ v l, CdrAt w base bc g gc n c cm v l

theorem own_ext {S : List Nat} {w w' : World} {base : Nat} {e : TypeId} {size n : Nat} {v : Value} {xs : List Value} (h : w.ownsRow base e size v n xs) (hE : Ext S w w') (hS : ∀ k, v.ownBlock = some k → k ∉ S) : w'.ownsRow base e size v n xs := by
  refine ⟨h.1, ?_⟩
  rcases h.2 with hn | ⟨g, cap, cur, rfl, hb, hgg, rest⟩
  · exact .inl hn
  · refine .inr ⟨g, cap, cur, rfl, hb, ?_, rest⟩
    rw [hE.block g (Array.getElem?_eq_some_iff.1 hgg).1 (hS g rfl)]
    exact hgg
theorem own_base {w : World} {base : Nat} {e : TypeId} {size n : Nat} {v : Value} {xs : List Value} (h : w.ownsRow base e size v n xs) : ∀ k, v.ownBlock = some k → base ≤ k := fun k hk => (h.lt k hk).1

theorem CdrAt.draw {w w' : World} {base bc g gc n n' c : Nat} {cm : CM} {v : Value} {l : List Ins} (h : CdrAt w base bc g gc n c cm v l) (hE : Ext [g] w w') (hS : Stm w' base g n') :
    CdrAt w' base bc g gc n' c cm v l :=
  ⟨hS, h.blk.ext hE (by have := h.gb; have := h.bb; simp; omega), own_ext h.own hE (fun k hk => by have := own_base h.own k hk; have := h.gb; simp; omega), h.room, h.gb, h.bb, h.bas, h.lan, h.que, h.set⟩
theorem Cdr.draw {w w' : World} {base bc g gc n n' c : Nat} {cm : CM} (h : Cdr w base bc g gc n c cm) (hE : Ext [g] w w') (hS : Stm w' base g n') : Cdr w' base bc g gc n' c cm := by
  obtain ⟨v, l, h⟩ := h
  exact ⟨v, l, h.draw hE hS⟩
theorem CdrAt.less {w : World} {base bc g gc n n' c c' : Nat} {cm : CM} {v : Value} {l : List Ins} (h : CdrAt w base bc g gc n c cm v l) (hn : n' ≤ n) (hc : c' ≤ c) :
    CdrAt w base bc g gc n' c' cm v l :=
  ⟨h.stm.less hn, h.blk, h.own, by have := h.room; omega, h.gb, h.bb, h.bas, h.lan, h.que, h.set⟩
theorem Cdr.less {w : World} {base bc g gc n n' c c' : Nat} {cm : CM} (h : Cdr w base bc g gc n c cm) (hn : n' ≤ n) (hc : c' ≤ c) : Cdr w base bc g gc n' c' cm := by
  obtain ⟨v, l, h⟩ := h
  exact ⟨v, l, h.less hn hc⟩
theorem Cdr.stm {w : World} {base bc g gc n c : Nat} {cm : CM} (h : Cdr w base bc g gc n c cm) : Stm w base g n := by
  obtain ⟨v, l, h⟩ := h
  exact h.stm

theorem Try.info64 : (Try.prog.info? 64).map (fun i => (i.zero, i.size, i.bytes)) = some (some (.agg #[.int .i64 0, .int .i64 0, .int .i64 0, .int .i64 0, .int .i64 0, .int .i64 0, .int .i64 0, .int .i64 0, .int .i64 0]), 9, 72) := by kernel_rfl

theorem add_end {base bc g gc n c g2 cap2 : Nat} {cm : CM} {v : Value} {l : List Ins} {w w1 w2 : World} (h : CdrAt w base bc g gc n (c + 1) cm v l) (x : Ins) (hE : Ext [] w w1)
    (ho : w2.ownsRow bc 64 9 (.slice (some ⟨g2, 0, none⟩) (l.length + 1) cap2) (l.length + 1) (codeCells l ++ x.cells)) (hg : w1.grownBy w2 v.ownBlock)
    (hB : Blk w2 gc 120 (cdrCells g cm v)) :
    Upto bc [g] w (w2.setCell ⟨gc, 6, none⟩ (.slice (some ⟨g2, 0, none⟩) (l.length + 1) cap2)) ∧ Cdr (w2.setCell ⟨gc, 6, none⟩ (.slice (some ⟨g2, 0, none⟩) (l.length + 1) cap2)) base bc g gc n c cm := by
  have hbs : bc ≤ w.heap.size := by have := h.blk.lt; have := h.bb; omega
  have hw1 : Upto bc [g] w w1 := Upto.of_ext hE hbs (by simp)
  have hrow : ∀ k, v.ownBlock = some k → bc ≤ k := own_base h.own
  have hw2 : Upto bc [g] w w2 := hw1.grown (by have := hE.size; omega) hg (fun k hk => .inr (hrow k hk))
  refine ⟨hw2.setCell (.inr h.bb) _, .slice (some ⟨g2, 0, none⟩) (l.length + 1) cap2, l ++ [x], ?_, ?_, ?_, ?_, h.gb, h.bb, h.bas, h.lan, h.que, h.set⟩
  · have hs1 : Stm w1 base g n := h.stm.ext hE (by simp) (by simp)
    have hs2 : Stm w2 base g n := hs1.ext (S := v.ownBlock.toList) ((Ext.refl _ _).grown hg (fun k hk => .inl (by simp [hk]))) (by
      intro hm; have := hrow g (by simpa using hm); have := h.gb; omega) (by
      intro k hk; have := hrow k (by simpa using hk); have := h.bas; omega)
    exact hs2.setCell (by have := h.gb; have := h.bb; simp; omega) (by have := h.bas; have := h.bb; simp; omega) _
  · exact hB.set_' 6 _ _ rfl
  · rw [codeCells_snoc, List.length_append]
    exact ownsRow_setCell_other ho (own_blk_ne ho hB (by decide)) _
  · have := h.room; simp; omega

/-- One instruction more. -/
theorem add_any (base bc g gc n c : Nat) (cm : CM) (x : Ins) (w : World) (h : Cdr w base bc g gc n (c + 1) cm) :
    Calls Try.prog 72 #[.pointer (some ⟨gc, 0, none⟩), .agg x.cells.toArray] w fun e w' => e = .returned (.tuple #[]) ∧ Upto bc [g] w w' ∧ Cdr w' base bc g gc n c cm := by
  obtain ⟨v, l, h⟩ := h
  obtain ⟨i0, hi0, hz0, hz1, hz2⟩ := info_parts Try.info64
  obtain ⟨hc, hf⟩ := h.blk.both
  have hlt := h.blk.lt
  have HH := hd h
  obtain ⟨x0, x1, x2, x3, x4, x5, x6, x7, x8⟩ := x
  simp only [Ins.cells, cdrCells] at hc ⊢
  go_enter Try.func72, Try.ntmps72
  go_wp2_with fail
  go_region_law (
    refine step_append_lies _ rfl (.tmp 8) (.tmp 10) 41 rfl bc 64 i0 _ 9 72 Try.underlying41 hi0 hz0 hz1 hz2 rfl (by omega) v l.length (codeCells l) rfl ?_ ⟨w.heap.size + 1, 0, none⟩ 1 1 (Ins.cells ⟨x0, x1, x2, x3, x4, x5, x6, x7, x8⟩) rfl rfl ?_ ?_ (by omega) ?_ ?_ ?_ _ rfl ?_
    · refine own_ext HH.out.own (S := []) ?_ (by simp)
      repeat (first | exact Ext.refl _ _ | apply Ext.alloc | apply Ext.drew | apply Ext.drewN)
    · exact World.news_of_block (Blk.new' _ _ _ _ (by simp))
    · intro u hu; simp [Ins.cells] at hu; rcases hu with rfl | rfl | rfl | rfl | rfl | rfl | rfl | rfl | rfl <;> rfl
    · have := HH.out.room; unfold maxLen; omega
    · have := HH.out.room; omega
    · have := HH.out.bb; simp; omega
    intro g2 cap2 w2 ho hg ha hz
    have hB2 := Blk.grown (by repeat (first | exact HH.out.blk | apply Blk.alloc | apply Blk.drew | apply Blk.drewN)) hg (own_blk_ne HH.out.own HH.out.blk (by decide))
    obtain ⟨hc2, hf2⟩ := hB2.both
    simp only [cdrCells] at hc2
    have HX := hd (And.intro ho (And.intro hg (And.intro ha hB2)))
    clear ho hg ha hB2)
  all_goals
    go_wp2
    go_end0
    obtain ⟨ho, hg, ha, hB2⟩ := HX.out
    exact ⟨rfl, add_end HH.out _ (by repeat (first | exact Ext.refl _ _ | apply Ext.alloc | apply Ext.drew | apply Ext.drewN)) ho hg hB2⟩
end Go.Proofs.Ytedabpldigcffaa
