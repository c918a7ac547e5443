/- A server's requests: a map of pointers (turned from RmA). -/
import Derived.Test.YtgbjlccgnfcnaaaGreatSvL
import Derived.Maps.OwnOps
import Derived.Maps.OwnSet
import Derived.Maps.Views
import Derived.Maps.RangeWalk
namespace Go.Proofs.YtgbjlccgnfcnaaaGreat
open Go.RowKit
set_option linter.unusedSimpArgs false
set_option linter.unusedVariables false

theorem wfI {a : Int} (h : -9223372036854775808 ≤ a ∧ a ≤ 9223372036854775807) : (Lit.int .i64 a).wf = true := by
  have h1 : IntKind.i64.min = -9223372036854775808 := by decide
  have h2 : IntKind.i64.max = 9223372036854775807 := by decide
  simp [Lit.wf, h1, h2, h]
/-- How an element reads: as itself. -/
def selfE (v : Value) : Option (DataW Value × List MemPlace) := some (.held v, [])
def hasV (D : DataW Value) (q : Int) : Nat := if Maps.has D (.int .i64 q) then 1 else 0
theorem hasV_le (D : DataW Value) (q : Int) : hasV D q ≤ 1 := by unfold hasV; split <;> omega
/-- Block b is a map of transfers whose keys are among 0 to 3. -/
def TMap (w : World) (b : Nat) (f : Int → Option Value) : Prop :=
  ∃ D : DataW Value, w.ownsMap Tryz.prog 3 selfE b 4 D ∧ Maps.size D = hasV D 0 + hasV D 1 + hasV D 2 + hasV D 3 ∧ (∀ q, Maps.has D (.int .i64 q) = (f q).isSome) ∧ ∀ q v, f q = some v → ∀ z, D.atKey (.int .i64 q) z = .held v
/-- The pointer that a request lacks. -/
def zTr : Value := .pointer none
def setZ (f : Int → Option Value) (q : Int) (v : Option Value) : Int → Option Value := fun j => if j = q then v else f j
theorem setZ_same (f : Int → Option Value) (q : Int) (v : Option Value) : setZ f q v q = v := by simp [setZ]
theorem setZ_ne (f : Int → Option Value) {q j : Int} (v : Option Value) (h : j ≠ q) : setZ f q v j = f j := by simp [setZ, h]
theorem zTr_run (w : World) : (zeroValue 74).run Tryz.prog w = .ok zTr w := by kernel_rfl
theorem keyI : Maps.Keyed Tryz.prog 3 := Maps.int_keyed Tryz.underlying3
section
variable {w w' : World} {b : Nat} {f : Int → Option Value}
theorem ownsMap_size' {P : Program} {k : TypeId} {R : Value → Option (DataW Value × List MemPlace)} {n m : Nat} {D : DataW Value} (h : w.ownsMap P k R b n D) (hm : Maps.size D ≤ m) : w.ownsMap P k R b m D := by
  obtain ⟨es, clock, hb, F, hs, rfl⟩ := h
  refine ⟨es, clock, hb, F, ?_, rfl⟩
  rw [Maps.size_eq, length_sorted] at hm
  simpa using hm
theorem TMap.made (w : World) : TMap (w.alloc (.map #[] 0)) w.heap.size (fun _ => none) := ⟨_, (World.ownsMap_made _ _ _ _).mono (by omega), rfl, fun q => rfl, fun q v h => by cases h⟩
theorem TMap.lt (h : TMap w b f) : b < w.heap.size := by obtain ⟨D, h, _⟩ := h; exact h.lt
theorem TMap.ext {S : List Nat} (h : TMap w b f) (hE : Ext S w w') (hb : b ∉ S) : TMap w' b f := by
  have hlt := h.lt
  obtain ⟨D, ⟨es, clock, h1, h2⟩, h3⟩ := h
  exact ⟨D, ⟨es, clock, (hE.block b hlt hb).trans h1, h2⟩, h3⟩
theorem TMap.apart {g : Nat} {t : TypeId} {C : Array Value} (h : TMap w b f) (k : Blk w g t C) : b ≠ g := fun e => by
  obtain ⟨D, ⟨es, clock, h1, _⟩, _⟩ := h
  subst e
  unfold Blk at k
  rw [h1] at k
  cases k
theorem TMap.look (h : TMap w b f) (q : Int) (hq : -9223372036854775808 ≤ q ∧ q ≤ 9223372036854775807) : (Instr.lookup 67 (.map (some b)) (.int .i64 q) false).run Tryz.prog w = .ok ((f q).getD zTr) w := by
  obtain ⟨D, h1, h2, h3, h4⟩ := h
  obtain ⟨v, ps, hr, hv⟩ := h1.lookup (t := 67) keyI Tryz.underlying67 (zTr_run w) (zd := .held zTr) (zp := []) rfl (Maps.keyOf_int_mk Tryz.underlying3 (wfI hq))
  rw [hr]
  have hv' : DataW.held v = D.atKey (.int .i64 q) (.held zTr) := by simpa [selfE] using congrArg (fun x => x.map Prod.fst) hv
  cases hf : f q with
  | none =>
    rw [Maps.atKey_of_not_has (by rw [h3, hf]; rfl)] at hv'
    cases hv'
    rfl
  | some u =>
    rw [h4 q u hf] at hv'
    cases hv'
    rfl
theorem hasV_other {D D' : DataW Value} {q j : Int} (hD : ∀ k', k' ≠ Lit.int .i64 q → Maps.has D' k' = Maps.has D k') (hj : j ≠ q) : hasV D' j = hasV D j := by
  unfold hasV
  rw [hD _ (fun hh => hj (by cases hh; rfl))]
theorem TMap.store (h : TMap w b f) (q : Int) (v : Value) (hq : 0 ≤ q ∧ q ≤ 3) :
    ∃ w', (Instr.mapUpdate 67 (.map (some b)) (.int .i64 q) v).run Tryz.prog w = .ok () w' ∧ TMap w' b (setZ f q (some v)) ∧ Ext [b] w w' := by
  obtain ⟨D, h1, h2, h3, h3'⟩ := h
  have hk := Maps.keyOf_int_mk (P := Tryz.prog) Tryz.underlying3 (wfI (a := q) (by omega))
  obtain ⟨w', hr, h4, h5⟩ := h1.update (t := 67) keyI Tryz.underlying67 (by unfold maxLen; omega) hk (val := v) (d := .held v) (ps := []) rfl
  have hsz := Maps.size_put (k := .int .i64 q) (h1.tidy keyI) (.held v)
  have hs : hasV (D.put (.int .i64 q) (.held v)) q = 1 := by unfold hasV; rw [Maps.has_put_same h1.isMap (keyI.key hk)]; rfl
  have ho := fun (j : Int) (hj : j ≠ q) => hasV_other (D := D) (D' := D.put (.int .i64 q) (.held v)) (fun k' hk' => Maps.has_put_other hk' _) hj
  have hc : Maps.size (D.put (.int .i64 q) (.held v)) = hasV D q * 0 + (if Maps.has D (.int .i64 q) then Maps.size D else Maps.size D + 1) := by rw [hsz]; omega
  have hb : (if Maps.has D (.int .i64 q) then Maps.size D else Maps.size D + 1) + hasV D q = Maps.size D + 1 := by unfold hasV; split <;> omega
  have hnew : Maps.size (D.put (.int .i64 q) (.held v)) = hasV (D.put (.int .i64 q) (.held v)) 0 + hasV (D.put (.int .i64 q) (.held v)) 1 + hasV (D.put (.int .i64 q) (.held v)) 2 + hasV (D.put (.int .i64 q) (.held v)) 3 := by
    have hq4 : q = 0 ∨ q = 1 ∨ q = 2 ∨ q = 3 := by omega
    rcases hq4 with rfl | rfl | rfl | rfl
    · have a1 := ho 1 (by omega); have a2 := ho 2 (by omega); have a3 := ho 3 (by omega); omega
    · have a1 := ho 0 (by omega); have a2 := ho 2 (by omega); have a3 := ho 3 (by omega); omega
    · have a1 := ho 0 (by omega); have a2 := ho 1 (by omega); have a3 := ho 3 (by omega); omega
    · have a1 := ho 0 (by omega); have a2 := ho 1 (by omega); have a3 := ho 2 (by omega); omega
  refine ⟨w', hr, ⟨_, ownsMap_size' h4 ?_, hnew, fun j => ?_, fun j u hj => ?_⟩, (Ext.refl [b] w).grown h5 (fun k hk => .inl (by cases hk; simp))⟩
  · rw [hnew]
    have b0 := hasV_le (D.put (.int .i64 q) (.held v)) 0
    have b1 := hasV_le (D.put (.int .i64 q) (.held v)) 1
    have b2 := hasV_le (D.put (.int .i64 q) (.held v)) 2
    have b3 := hasV_le (D.put (.int .i64 q) (.held v)) 3
    omega
  · by_cases hj : j = q
    · subst hj
      rw [setZ_same]
      exact Maps.has_put_same h1.isMap (keyI.key hk) _
    · rw [setZ_ne _ _ hj, Maps.has_put_other (fun hh => hj (by cases hh; rfl)), h3]
  · by_cases hjq : j = q
    · subst hjq
      rw [setZ_same] at hj
      cases hj
      exact fun z => Maps.atKey_put_same h1.isMap (keyI.key hk) _ _
    · rw [setZ_ne _ _ hjq] at hj
      exact fun z => by rw [Maps.atKey_put_other (fun hh => hjq (by cases hh; rfl)), h3' j u hj]
theorem TMap.drop (h : TMap w b f) (q : Int) (hq : 0 ≤ q ∧ q ≤ 3) (ty : TypeId) :
    ∃ w', (Builtin.delete_ #[67, 3] ty #[.map (some b), .int .i64 q]).run Tryz.prog w = .ok (.tuple #[]) w' ∧ TMap w' b (setZ f q none) ∧ Ext [b] w w' := by
  obtain ⟨D, h1, h2, h3, h3'⟩ := h
  have hk := Maps.keyOf_int_mk (P := Tryz.prog) Tryz.underlying3 (wfI (a := q) (by omega))
  obtain ⟨w', hr, h4, h5⟩ := h1.drop (t := 67) keyI Tryz.underlying67 hk ty
  have hsz := Maps.size_del (k := .int .i64 q) (h1.tidy keyI)
  have hs : hasV (D.del (.int .i64 q)) q = 0 := by unfold hasV; rw [Maps.has_del_same]; rfl
  have ho := fun (j : Int) (hj : j ≠ q) => hasV_other (D := D) (D' := D.del (.int .i64 q)) (fun k' hk' => Maps.has_del_other hk') hj
  have hb : (if Maps.has D (.int .i64 q) then 1 else 0) = hasV D q := rfl
  rw [hb] at hsz
  have hnew : Maps.size (D.del (.int .i64 q)) = hasV (D.del (.int .i64 q)) 0 + hasV (D.del (.int .i64 q)) 1 + hasV (D.del (.int .i64 q)) 2 + hasV (D.del (.int .i64 q)) 3 := by
    have hq4 : q = 0 ∨ q = 1 ∨ q = 2 ∨ q = 3 := by omega
    rcases hq4 with rfl | rfl | rfl | rfl
    · have a1 := ho 1 (by omega); have a2 := ho 2 (by omega); have a3 := ho 3 (by omega); omega
    · have a1 := ho 0 (by omega); have a2 := ho 2 (by omega); have a3 := ho 3 (by omega); omega
    · have a1 := ho 0 (by omega); have a2 := ho 1 (by omega); have a3 := ho 3 (by omega); omega
    · have a1 := ho 0 (by omega); have a2 := ho 1 (by omega); have a3 := ho 2 (by omega); omega
  refine ⟨w', hr, ⟨_, h4, hnew, fun j => ?_, fun j u hj => ?_⟩, (Ext.refl [b] w).grown h5.grown (fun k hk => .inl (by cases hk; simp))⟩
  · by_cases hj : j = q
    · subst hj
      rw [setZ_same, Maps.has_del_same]; rfl
    · rw [setZ_ne _ _ hj, Maps.has_del_other (fun hh => hj (by cases hh; rfl)), h3]
  · by_cases hjq : j = q
    · subst hjq
      rw [setZ_same] at hj
      cases hj
    · rw [setZ_ne _ _ hjq] at hj
      exact fun z => by rw [Maps.atKey_del_other (fun hh => hjq (by cases hh; rfl)), h3' j u hj]
end
section
variable (w : World) {ops : Array Oper} {rest : List Oper} {o : Oper} {a : Act} {Q : Exit → Act → World → Prop}
/-- A store into such a map, for the walk. -/
theorem wpList_tmap_store (hg : o.guard = none) (m x v : Operand) (hop : o.op = Op.mapUpdate 67 m x v) (b : Nat) (f : Int → Option Value) (hm : a.eval m = .map (some b)) (h : TMap w b f) (q : Int) (y : Value) (hx : a.eval x = .int .i64 q) (hv : a.eval v = y)
    (hq : 0 ≤ q ∧ q ≤ 3) (hK : ∀ w', TMap w' b (setZ f q (some y)) → Ext [b] w w' → wpList Tryz.prog ops Q rest (a.put o.dst undef) w') : wpList Tryz.prog ops Q (o :: rest) a w := by
  refine wpList_plain hg fun K' hK' => ?_
  obtain ⟨w', hrun, r1, r2⟩ := h.store q y hq
  unfold Oper.wp
  simp [execOp, hop, hm, hx, hv, hrun, Result.andThen]
  exact hK' _ _ (hK w' r1 r2)
theorem wpList_tmap_drop (hg : o.guard = none) (m x : Operand) (hop : o.op = Op.call { callee := Callee.builtin Builtin.delete, args := #[m, x], argTypes := #[67, 3] }) (b : Nat) (f : Int → Option Value) (hm : a.eval m = .map (some b)) (h : TMap w b f) (q : Int) (hx : a.eval x = .int .i64 q)
    (hq : 0 ≤ q ∧ q ≤ 3) (hK : ∀ w', TMap w' b (setZ f q none) → Ext [b] w w' → wpList Tryz.prog ops Q rest (a.put o.dst (.tuple #[])) w') : wpList Tryz.prog ops Q (o :: rest) a w := by
  refine wpList_plain hg fun K' hK' => ?_
  obtain ⟨w', hrun, r1, r2⟩ := h.drop q hq o.type
  unfold Oper.wp
  simp [execOp, hop, resolve, invoke, builtin, hm, hx, hrun, Result.andThen]
  exact hK' _ _ (hK w' r1 r2)
end
end Go.Proofs.YtgbjlccgnfcnaaaGreat
