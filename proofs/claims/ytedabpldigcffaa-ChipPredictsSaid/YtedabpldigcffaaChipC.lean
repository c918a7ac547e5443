/- The small machine's chip is started. -/
import Derived.Test.YtedabpldigcffaaChipB
import Derived.Test.YtedabpldigcffaaDraw
import Derived.Test.YtedabpldigcffaaRelS
namespace Go.Proofs.Ytedabpldigcffaa
open Go.RowKit
set_option linter.unusedSimpArgs false
set_option linter.unusedVariables false

/-- Only the blocks of T may have turned, and all keep their sizes. -/
def JH (T : List Nat) (w0 : World) (_ : Nat) (w : World) : Prop := Ext T w0 w ∧ Shape w0 w
def RH (T : List Nat) (w w' : World) : Prop := Ext T w w' ∧ Shape w w'
theorem JH.less {T : List Nat} {w0 : World} (k : Nat) (w : World) (h : JH T w0 (k + 1) w) : JH T w0 k w := h
theorem JH.start {T : List Nat} {w0 : World} {p : Nat} : JH T w0 p w0.drew := ⟨(Ext.refl _ _).drew, (Shape.refl _).drew⟩
theorem JH.step {T : List Nat} {w0 w w' : World} {k n : Nat} (h : JH T w0 k w) (hR : RH T w w') : JH T w0 n w' := ⟨h.1.trans hR.1, h.2.trans hR.2⟩
theorem RH.alloc {T : List Nat} (w : World) (o : Obj) : RH T w (w.alloc o) := ⟨(Ext.refl _ _).alloc _, (Shape.refl _).alloc _⟩
theorem get_after {o : Oper} {F : Nat → World → Prop} {w : World} (hf : ∀ e ∈ o.after, Region.binds .any e = true → F e.on w) (j : Nat) (hj : o.after.any (fun e => Region.binds .any e && e.on == j) = true) : F j w := by
  obtain ⟨e, he, hb⟩ := Array.any_eq_true'.1 hj
  simp only [Bool.and_eq_true, beq_iff_eq] at hb
  have hv := hf e he hb.1
  rwa [hb.2] at hv
section
variable {P : Program} {ops : Array Oper} {S : Nat → Option Spec} {Q : Act → World → Prop} {k : Nat} {o : Oper} {rest : List Oper} {a : Act} {F : Nat → World → Prop} {T : List Nat} {w0 : World}
/-- An operation that makes a block. -/
theorem rel_new (s : Spec) (hS : S k = some s) (hw : Region.wanted o (yielded ops a.tmps) = true)
    (hr : ∀ w n, JH T w0 (n + 1) w → (∀ e ∈ o.after, Region.binds .any e = true → F e.on w) → ∃ x ob, (execOp a.eval o).run P w = .ok (.value (s.f x)) (w.alloc ob) ∧ s.V x (w.alloc ob))
    (h : ∀ x : s.α, relAt P ops (JH T w0) (RH T) S Q (k + 1) rest (a.put o.dst (s.f x)) (upd F k (s.V x))) : relAt P ops (JH T w0) (RH T) S Q k (o :: rest) a F := by
  refine relAt_value s hS hw (fun w n hJ hf => ?_) h
  obtain ⟨x, ob, hx, hV⟩ := hr w n hJ hf
  exact ⟨x, _, hx, hV, JH.step hJ (RH.alloc w ob), RH.alloc w ob⟩
/-- An operation that leaves the world alone, and whose value bears facts. -/
theorem rel_say (s : Spec) (x : s.α) (hS : S k = some s) (hw : Region.wanted o (yielded ops a.tmps) = true)
    (hr : ∀ w n, JH T w0 (n + 1) w → (execOp a.eval o).run P w = .ok (.value (s.f x)) w)
    (hV : ∀ w n, JH T w0 (n + 1) w → (∀ e ∈ o.after, Region.binds .any e = true → F e.on w) → s.V x w)
    (h : ∀ x : s.α, relAt P ops (JH T w0) (RH T) S Q (k + 1) rest (a.put o.dst (s.f x)) (upd F k (s.V x))) : relAt P ops (JH T w0) (RH T) S Q k (o :: rest) a F :=
  relAt_value s hS hw (fun w n hJ hf => ⟨x, w, hr w n hJ, hV w n hJ hf, hJ, Ext.refl _ _, Shape.refl _⟩) h
/-- A call that leaves all old blocks as they were. -/
theorem rel_ext (s : Spec) (hS : S k = some s) (hw : Region.wanted o (yielded ops a.tmps) = true)
    (hh : ∃ (f : FuncId) (args : Array Value), (∀ w, (execOp a.eval o).run P w = .ok (.enter f args) w) ∧
      (∀ w n, JH T w0 (n + 1) w → (∀ e ∈ o.after, Region.binds .any e = true → F e.on w) → Calls P f args w fun e w' => ∃ x, e = .returned (s.f x) ∧ s.V x w' ∧ Ext [] w w'))
    (h : ∀ x : s.α, relAt P ops (JH T w0) (RH T) S Q (k + 1) rest (a.put o.dst (s.f x)) (upd F k (s.V x))) : relAt P ops (JH T w0) (RH T) S Q k (o :: rest) a F := by
  obtain ⟨f, args, hr, hu⟩ := hh
  refine relAt_call s hS hw ⟨f, args, hr, fun w n hJ hf => (hu w n hJ hf).mono ?_⟩ h
  rintro e w' ⟨x, he, hV, hE⟩
  have hR : RH T w w' := ⟨hE.nil, Shape.of_ext hE⟩
  exact ⟨x, he, hV, JH.step hJ hR, hR⟩
/-- An append of one cell that operation j has laid. -/
theorem rel_app (j b : Nat) (t base : Nat) (e : TypeId) (i : TypeInfo) (z : Value) (bytes : Nat) (v : Value) (n c : Nat) (s x : Operand) (sp : Spec) (V9 : Nat → World → Prop)
    (hsp : sp = ⟨Nat × Nat, (0, 0), fun u => .slice (some ⟨u.1, 0, none⟩) (n + 1) u.2, fun u w => Row w base e (.slice (some ⟨u.1, 0, none⟩) (n + 1) u.2) (n + 1)⟩)
    (hS : S k = some sp) (hgd : o.guard = none) (ho : o.op = .call { callee := .builtin .append, args := #[s, x], argTypes := #[t, t] })
    (ht : Try.prog.underlying t = some (.slice e)) (hi : Try.prog.info? e = some i) (hz : i.zero = some z) (hsize : i.size = 1) (hby : i.bytes = bytes) (hzs : z.cells.size = 1)
    (hs : a.eval s = v) (hx : a.eval x = .slice (some ⟨b, 0, none⟩) 1 c)
    (hv : ∀ w m, JH T w0 (m + 1) w → Row w base e v n) (hT : ∀ g, v.ownBlock = some g → g ∈ T)
    (hj : o.after.any (fun e => Region.binds .any e && e.on == j) = true) (hF : F j = V9 b) (hV9 : ∀ w, V9 b w → ∃ u, w.cell? ⟨b, 0, none⟩ = some u ∧ u.oneCell' = true)
    (h63 : n + 1 ≤ maxLen) (hbytes : (n + 1) * bytes ≤ 140737488355328) (hbase : base ≤ w0.heap.size)
    (h : ∀ u : Nat × Nat, relAt Try.prog ops (JH T w0) (RH T) S Q (k + 1) rest (a.put o.dst (.slice (some ⟨u.1, 0, none⟩) (n + 1) u.2)) (upd F k fun w => Row w base e (.slice (some ⟨u.1, 0, none⟩) (n + 1) u.2) (n + 1))) :
    relAt Try.prog ops (JH T w0) (RH T) S Q k (o :: rest) a F := by
  subst hsp
  refine relAt_value _ hS (by simp [Region.wanted, hgd]) (fun w m hJ hf => ?_) h
  have h9 := get_after hf j hj
  rw [hF] at h9
  obtain ⟨u, hu, hu1⟩ := hV9 w h9
  obtain ⟨g, cap, w', hr, hro, hg, hsh⟩ := run_append_shape w t o.type base e i z bytes ht hi hz hsize hby hzs v n (hv w m hJ) ⟨b, 0, none⟩ c u hu hu1 rfl h63 hbytes (Nat.le_trans hbase hJ.1.size)
  have hR : RH T w w' := ⟨(Ext.refl T w).grown hg (fun k hk => .inl (hT k hk)), hsh⟩
  refine ⟨(g, cap), w', ?_, hro, JH.step hJ hR, hR⟩
  unfold execOp
  simp only [ho, resolve, invoke, builtin, Sem.run_bind, Sem.run_pure, Result.andThen_ok, List.map_toArray, List.map_cons, List.map_nil, hs, hx, hr]
end

section
variable {ops : Array Oper} {p : Nat} {J : (Nat → Bool) → World → Prop} {S : Nat → Option Spec} {Q : Act → World → Prop} {k : Nat} {o : Oper} {rest : List Oper} {a : Act} {F : Nat → World → Prop} {T : List Nat}
/-- An operation that makes a block. -/
theorem rel_newS {P : Program} (s : Spec) (hS : S k = some s) (hw : Region.wanted o (yielded ops a.tmps) = true)
    (hstep : ∀ w ob r, Good ops k r → J r w → J (off r k) (w.alloc ob))
    (hr : ∀ w r, Good ops k r → J r w → (∀ e ∈ o.after, Region.binds .any e = true → F e.on w) → ∃ x ob, (execOp a.eval o).run P w = .ok (.value (s.f x)) (w.alloc ob) ∧ s.V x (w.alloc ob))
    (h : ∀ x : s.α, relAtS P ops p J (RH T) S Q (k + 1) rest (a.put o.dst (s.f x)) (upd F k (s.V x))) : relAtS P ops p J (RH T) S Q k (o :: rest) a F := by
  refine relAt_valueS s hS hw (fun w n hg hJ hf => ?_) h
  obtain ⟨x, ob, hx, hV⟩ := hr w n hg hJ hf
  exact ⟨x, _, hx, hV, hstep _ _ _ hg hJ, RH.alloc w ob⟩
/-- An append of one cell that operation j has laid. -/
theorem rel_appS (j b : Nat) (t base : Nat) (e : TypeId) (i : TypeInfo) (z : Value) (bytes : Nat) (v : Value) (n c : Nat) (s x : Operand) (sp : Spec) (V9 : Nat → World → Prop)
    (hsp : sp = ⟨Nat × Nat, (0, 0), fun u => .slice (some ⟨u.1, 0, none⟩) (n + 1) u.2, fun u w => Row w base e (.slice (some ⟨u.1, 0, none⟩) (n + 1) u.2) (n + 1)⟩)
    (hstep : ∀ w w' r, Good ops k r → J r w → RH T w w' → w.grownBy w' v.ownBlock → J (off r k) w')
    (hS : S k = some sp) (hgd : o.guard = none) (ho : o.op = .call { callee := .builtin .append, args := #[s, x], argTypes := #[t, t] })
    (ht : Try.prog.underlying t = some (.slice e)) (hi : Try.prog.info? e = some i) (hz : i.zero = some z) (hsize : i.size = 1) (hby : i.bytes = bytes) (hzs : z.cells.size = 1)
    (hs : a.eval s = v) (hx : a.eval x = .slice (some ⟨b, 0, none⟩) 1 c)
    (hv : ∀ w r, Good ops k r → J r w → Row w base e v n) (hT : ∀ g, v.ownBlock = some g → g ∈ T)
    (hj : o.after.any (fun e => Region.binds .any e && e.on == j) = true) (hF : F j = V9 b) (hV9 : ∀ w, V9 b w → ∃ u, w.cell? ⟨b, 0, none⟩ = some u ∧ u.oneCell' = true)
    (h63 : n + 1 ≤ maxLen) (hbytes : (n + 1) * bytes ≤ 140737488355328) (hbase : ∀ w r, J r w → base ≤ w.heap.size)
    (h : ∀ u : Nat × Nat, relAtS Try.prog ops p J (RH T) S Q (k + 1) rest (a.put o.dst (.slice (some ⟨u.1, 0, none⟩) (n + 1) u.2)) (upd F k fun w => Row w base e (.slice (some ⟨u.1, 0, none⟩) (n + 1) u.2) (n + 1))) :
    relAtS Try.prog ops p J (RH T) S Q k (o :: rest) a F := by
  subst hsp
  refine relAt_valueS _ hS (by simp [Region.wanted, hgd]) (fun w m hgo hJ hf => ?_) h
  have h9 := get_after hf j hj
  rw [hF] at h9
  obtain ⟨u, hu, hu1⟩ := hV9 w h9
  obtain ⟨g, cap, w', hr, hro, hg, hsh⟩ := run_append_shape w t o.type base e i z bytes ht hi hz hsize hby hzs v n (hv w m hgo hJ) ⟨b, 0, none⟩ c u hu hu1 rfl h63 hbytes (hbase w m hJ)
  have hR : RH T w w' := ⟨(Ext.refl T w).grown hg (fun k hk => .inl (hT k hk)), hsh⟩
  refine ⟨(g, cap), w', ?_, hro, hstep _ _ _ hgo hJ hR hg, hR⟩
  unfold execOp
  simp only [ho, resolve, invoke, builtin, Sem.run_bind, Sem.run_pure, Result.andThen_ok, List.map_toArray, List.map_cons, List.map_nil, hs, hx, hr]
end

/-- A new slice of so many elements. -/
def sMk (n : Nat) : Spec := ⟨Nat, 0, fun b => .slice (some ⟨b, 0, none⟩) n n, fun _ _ => True⟩
def sCode (xs : List Ins) : Spec := ⟨Nat × Nat, (0, 0), fun u => .slice (some ⟨u.1, 0, none⟩) xs.length u.2, fun u w => RdC w (some ⟨u.1, 0, none⟩) xs ∧ u.1 < w.heap.size⟩
def sMain (B : Nat) (xs : List Int) : Spec := ⟨Nat × Nat, (0, 0), fun u => .slice (some ⟨u.1, 0, none⟩) xs.length u.2, fun u w => w.ownsRow B 3 1 (.slice (some ⟨u.1, 0, none⟩) xs.length u.2) xs.length (xs.map (Value.int .i64))⟩
def sQueue : Spec := ⟨Nat, 0, fun b => .slice (some ⟨b, 0, none⟩) 1 1, fun b w => Blk w b 157 #[.pointer none]⟩
/-- Where a chip's parts lie. -/
structure CU where
  g1 : Nat
  c1 : Nat
  b2 : Nat
  g3 : Nat
  c3 : Nat
  b4 : Nat
/-- The chip's cells, its parts known. -/
def CU.cells (u : CU) (n mn : Nat) (banks set : Value) (r1 pc cyc : Int) (over : Bool) : Array Value :=
  chipC (.slice (some ⟨u.g1, 0, none⟩) n u.c1) (.slice (some ⟨u.b2, 0, none⟩) n n) (.slice (some ⟨u.g3, 0, none⟩) mn u.c3) banks set (.slice (some ⟨u.b4, 0, none⟩) 1 1) r1 pc cyc over
structure CF (B : Nat) (xs : List Ins) (main : List Int) (u : CU) (w : World) : Prop where
  code : RdC w (some ⟨u.g1, 0, none⟩) xs
  codeLt : u.g1 < w.heap.size
  main : w.ownsRow B 3 1 (.slice (some ⟨u.g3, 0, none⟩) main.length u.c3) main.length (main.map (Value.int .i64))
  queue : Blk w u.b4 157 #[.pointer none]
theorem CF.ext {T : List Nat} {B : Nat} {xs : List Ins} {main : List Int} {u : CU} {w w' : World} (h : CF B xs main u w) (hE : Ext T w w') (h1 : u.g1 ∉ T) (h3 : u.g3 ∉ T) (h4 : u.b4 ∉ T) : CF B xs main u w' :=
  ⟨h.code.ext hE (fun _ ha => by cases ha; exact h1), Nat.lt_of_lt_of_le h.codeLt hE.size, by
    have hm := h.main
    exact own_ext hm hE (fun k hk => by cases hk; exact h3), h.queue.ext hE h4⟩
def sAgg (B : Nat) (xs : List Ins) (main : List Int) : Spec := ⟨CU, ⟨0, 0, 0, 0, 0, 0⟩, fun u => .agg (u.cells xs.length main.length (.slice none 0 0) (.slice none 0 0) 0 0 0 false), fun u w => CF B xs main u w⟩
/-- A chip that was made. -/
def Made (B : Nat) (xs : List Ins) (main : List Int) (b : Nat) (w : World) : Prop :=
  ∃ u, CF B xs main u w ∧ Blk w b 117 (u.cells xs.length main.length (.slice none 0 0) (.slice none 0 0) 0 0 0 false) ∧ u.g1 < b ∧ u.g3 < b ∧ u.b4 < b
def sChip (B : Nat) (xs : List Ins) (main : List Int) : Spec := ⟨Nat, 0, fun b => .pointer (some ⟨b, 0, none⟩), fun b w => Made B xs main b w⟩
theorem sMk.stays {n : Nat} {R : World → World → Prop} : ∀ y w w', R w w' → (sMk n).V y w → (sMk n).V y w' := fun _ _ _ _ h => h
theorem sCode.stays {xs : List Ins} : ∀ y w w', RH [] w w' → (sCode xs).V y w → (sCode xs).V y w' := fun _ _ _ hR h => ⟨h.1.ext hR.1 (by simp), Nat.lt_of_lt_of_le h.2 hR.1.size⟩
theorem sMain.stays {B : Nat} {xs : List Int} : ∀ y w w', RH [] w w' → (sMain B xs).V y w → (sMain B xs).V y w' := fun _ _ _ hR h => own_ext h hR.1 (by simp)
theorem sQueue.stays : ∀ y w w', RH [] w w' → sQueue.V y w → sQueue.V y w' := fun _ _ _ hR h => Blk.ext h hR.1 (List.not_mem_nil)
theorem sAgg.stays {B : Nat} {xs : List Ins} {main : List Int} : ∀ y w w', RH [] w w' → (sAgg B xs main).V y w → (sAgg B xs main).V y w' := fun _ _ _ hR h => CF.ext h hR.1 (by simp) (by simp) (by simp)
theorem sChip.stays {B : Nat} {xs : List Ins} {main : List Int} : ∀ y w w', RH [] w w' → (sChip B xs main).V y w → (sChip B xs main).V y w' := fun _ _ _ hR ⟨u, h1, h2, h3⟩ => ⟨u, h1.ext hR.1 (by simp) (by simp) (by simp), h2.ext hR.1 (List.not_mem_nil), h3⟩

/-- A chip before its first instruction: its banks are rows of the call's own, whatever they hold. -/
def Started (xs : List Ins) (main : List Int) (w : World) (e : Ending) (w' : World) : Prop :=
  ∃ b u vb vs, e = .returned (.pointer (some ⟨b, 0, none⟩)) ∧ Ext [] w w' ∧ CF w.heap.size xs main u w' ∧ Blk w' b 117 (u.cells xs.length main.length vb vs 0 0 0 false) ∧ u.g1 < b ∧ u.g3 < b ∧ u.b4 < b ∧ w.heap.size ≤ b
end Go.Proofs.Ytedabpldigcffaa
