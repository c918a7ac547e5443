/- Rel once more: J knows which operations are still to come. No condition. -/
import Derived.Test.YtgbjlccgnfcnaaaGreatRelU
namespace Go.Proofs.YtgbjlccgnfcnaaaGreat
open Go.RowKit
section
variable {P : Program} {ops : Array Oper} {p : Nat} {J : (Nat → Bool) → World → Prop} {R : World → World → Prop} {S : Nat → Option Spec}
/-- The walk, the operations' numbers from k on. -/
def relAtS (P : Program) (ops : Array Oper) (p : Nat) (J : (Nat → Bool) → World → Prop) (R : World → World → Prop) (S : Nat → Option Spec) (Q : Act → World → Prop) (k : Nat) (l : List Oper) (a : Act) (F : Nat → World → Prop) : Prop :=
  relAtU P ops p J (fun _ => R) S Q k l a F
theorem wp_region_relS {id : Nat} {Q : Exit → Act → World → Prop} {a : Act} {w : World} {l : List Oper} (p : Nat) (J : (Nat → Bool) → World → Prop) (R : World → World → Prop) (S : Nat → Option Spec) (hm : P.follows .mixedOrders = true) (hB : relB l.toArray p = true)
    (hJ : ∀ i r w, (S i = none ∨ ∃ oi, l.toArray[i]? = some oi ∧ oi.guard ≠ none) → Good l.toArray i r → J r w → J (off r i) w) (hS : ∀ i s, S i = some s → ∀ x w w', R w w' → s.V x w → s.V x w') (h0 : J (fun j => decide (j < l.length)) w.drew)
    (h : relAtS P l.toArray p J R S (fun a w => wpList P l.toArray Q (l.drop p) a w) 0 (l.take p) a (fun _ _ => True)) : (Code.region id l.toArray true).wp P Q a w :=
  wp_region_relU p J (fun _ => R) S hm hB hJ (fun i s _ hs _ => hS i s hs) h0 h
section
variable {Q : Act → World → Prop} {k : Nat} {o : Oper} {rest : List Oper} {a : Act} {F : Nat → World → Prop}
theorem relAt_nilS (h : ∀ w r, (∀ j, j < ops.size → r j = decide (p ≤ j)) → J r w → (∀ i, F i w) → Q a w) : relAtS P ops p J R S Q k [] a F := h
theorem relAt_detS (hS : S k = none) (hw : Region.wanted o (yielded ops a.tmps) = true) (h : ∃ u, (∀ w n, Good ops k n → J n w → (execOp a.eval o).run P w = .ok (.value u) w) ∧ relAtS P ops p J R S Q (k + 1) rest (a.put o.dst u) F) :
    relAtS P ops p J R S Q k (o :: rest) a F := relAt_detU hS hw h
theorem dES {u : Value} (h2 : ∀ w n, Good ops k n → J n w → (execOp a.eval o).run P w = .ok (.value u) w) (h3 : relAtS P ops p J R S Q (k + 1) rest (a.put o.dst u) F) (hS : S k = none := by exact rfl) (hw : Region.wanted o (yielded ops a.tmps) = true := by exact rfl) :
    relAtS P ops p J R S Q k (o :: rest) a F := dEU h2 h3 hS hw
theorem relAt_noneS (hS : S k = none) (hw : Region.wanted o (yielded ops a.tmps) = true) (hu : ∀ w n, Good ops k n → J n w → (execOp a.eval o).run P w = .ok .skip w) (h : relAtS P ops p J R S Q (k + 1) rest (a.put o.dst undef) F) :
    relAtS P ops p J R S Q k (o :: rest) a F := relAt_noneU hS hw hu h
theorem relAt_skipS (hw : Region.wanted o (yielded ops a.tmps) = false) (h : relAtS P ops p J R S Q (k + 1) rest (a.put o.dst undef) F) : relAtS P ops p J R S Q k (o :: rest) a F := relAt_skipU hw h
theorem relAt_valueS (s : Spec) (hS : S k = some s) (hw : Region.wanted o (yielded ops a.tmps) = true)
    (hu : ∀ w n, Good ops k n → J n w → (∀ e ∈ o.after, Region.binds .any e = true → F e.on w) → ∃ x w', (execOp a.eval o).run P w = .ok (.value (s.f x)) w' ∧ s.V x w' ∧ J (off n k) w' ∧ R w w')
    (h : ∀ x : s.α, relAtS P ops p J R S Q (k + 1) rest (a.put o.dst (s.f x)) (upd F k (s.V x))) : relAtS P ops p J R S Q k (o :: rest) a F := relAt_valueU s hS hw hu h
theorem relAt_callS (s : Spec) (hS : S k = some s) (hw : Region.wanted o (yielded ops a.tmps) = true)
    (hh : ∃ (f : FuncId) (args : Array Value), (∀ w, (execOp a.eval o).run P w = .ok (.enter f args) w) ∧
      (∀ w n, Good ops k n → J n w → (∀ e ∈ o.after, Region.binds .any e = true → F e.on w) → Calls P f args w fun e w' => ∃ x, e = .returned (s.f x) ∧ s.V x w' ∧ J (off n k) w' ∧ R w w'))
    (h : ∀ x : s.α, relAtS P ops p J R S Q (k + 1) rest (a.put o.dst (s.f x)) (upd F k (s.V x))) : relAtS P ops p J R S Q k (o :: rest) a F := relAt_callU s hS hw hh h
theorem relAt_storeS (hS : S k = some ⟨Unit, (), fun _ => undef, fun _ _ => True⟩) (hw : Region.wanted o (yielded ops a.tmps) = true)
    (hu : ∀ w n, Good ops k n → J n w → (∀ e ∈ o.after, Region.binds .any e = true → F e.on w) → ∃ w', (execOp a.eval o).run P w = .ok .skip w' ∧ J (off n k) w' ∧ R w w')
    (h : relAtS P ops p J R S Q (k + 1) rest (a.put o.dst undef) (upd F k (fun _ => True))) : relAtS P ops p J R S Q k (o :: rest) a F := relAt_storeU hS hw hu h
end
end
end Go.Proofs.YtgbjlccgnfcnaaaGreat
