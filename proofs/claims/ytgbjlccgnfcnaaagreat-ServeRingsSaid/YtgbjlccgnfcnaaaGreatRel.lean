/- Regions that draw their order: J is told how many operations are still to come. No condition. -/
import Derived.Test.YtgbjlccgnfcnaaaGreatRelW
namespace Go.Proofs.YtgbjlccgnfcnaaaGreat
open Go.RowKit
section
variable {P : Program} {ops : Array Oper} {J : Nat → World → Prop} {R : World → World → Prop} {S : Nat → Option Spec}
/-- The walk, the operations' numbers from k on. -/
def relAt (P : Program) (ops : Array Oper) (J : Nat → World → Prop) (R : World → World → Prop) (S : Nat → Option Spec) (Q : Act → World → Prop) (k : Nat) (l : List Oper) (a : Act) (F : Nat → World → Prop) : Prop :=
  relAtW P ops (fun _ => 1) J R S Q k l a F
theorem wsum_one : ∀ p, wsum (fun _ => 1) (fun _ => true) p = p
  | 0 => rfl
  | p + 1 => by unfold wsum; rw [wsum_one p]; rfl
theorem wp_region_rel {id : Nat} {Q : Exit → Act → World → Prop} {a : Act} {w : World} {l : List Oper} (p : Nat) (J : Nat → World → Prop) (R : World → World → Prop) (S : Nat → Option Spec) (hm : P.follows .mixedOrders = true) (hB : relB l.toArray p = true)
    (hJ : ∀ k w, J (k + 1) w → J k w) (hS : ∀ i s, S i = some s → ∀ x w w', R w w' → s.V x w → s.V x w') (h0 : J p w.drew)
    (h : relAt P l.toArray J R S (fun a w => wpList P l.toArray Q (l.drop p) a w) 0 (l.take p) a (fun _ _ => True)) : (Code.region id l.toArray true).wp P Q a w :=
  wp_region_relW p (fun _ => 1) J R S hm hB (fun _ k w h => hJ k w h) hS p (wsum_one p) h0 h
section
variable {Q : Act → World → Prop} {k : Nat} {o : Oper} {rest : List Oper} {a : Act} {F : Nat → World → Prop}
theorem relAt_nil (h : ∀ w, J 0 w → (∀ i, F i w) → Q a w) : relAt P ops J R S Q k [] a F := relAt_nilW h
theorem relAt_det (hS : S k = none) (hw : Region.wanted o (yielded ops a.tmps) = true) (h : ∃ u, (∀ w n, J (n + 1) w → (execOp a.eval o).run P w = .ok (.value u) w) ∧ relAt P ops J R S Q (k + 1) rest (a.put o.dst u) F) :
    relAt P ops J R S Q k (o :: rest) a F := relAt_detW hS hw h
theorem dE {u : Value} (h2 : ∀ w n, J (n + 1) w → (execOp a.eval o).run P w = .ok (.value u) w) (h3 : relAt P ops J R S Q (k + 1) rest (a.put o.dst u) F) (hS : S k = none := by exact rfl) (hw : Region.wanted o (yielded ops a.tmps) = true := by exact rfl) :
    relAt P ops J R S Q k (o :: rest) a F := relAt_det hS hw ⟨u, h2, h3⟩
theorem relAt_none (hS : S k = none) (hw : Region.wanted o (yielded ops a.tmps) = true) (hu : ∀ w n, J (n + 1) w → (execOp a.eval o).run P w = .ok .skip w) (h : relAt P ops J R S Q (k + 1) rest (a.put o.dst undef) F) :
    relAt P ops J R S Q k (o :: rest) a F := relAt_noneW hS hw hu h
theorem relAt_skip (hw : Region.wanted o (yielded ops a.tmps) = false) (h : relAt P ops J R S Q (k + 1) rest (a.put o.dst undef) F) : relAt P ops J R S Q k (o :: rest) a F := relAt_skipW hw h
theorem relAt_value (s : Spec) (hS : S k = some s) (hw : Region.wanted o (yielded ops a.tmps) = true)
    (hu : ∀ w n, J (n + 1) w → (∀ e ∈ o.after, Region.binds .any e = true → F e.on w) → ∃ x w', (execOp a.eval o).run P w = .ok (.value (s.f x)) w' ∧ s.V x w' ∧ J n w' ∧ R w w')
    (h : ∀ x : s.α, relAt P ops J R S Q (k + 1) rest (a.put o.dst (s.f x)) (upd F k (s.V x))) : relAt P ops J R S Q k (o :: rest) a F := relAt_valueW s hS hw hu h
theorem relAt_call (s : Spec) (hS : S k = some s) (hw : Region.wanted o (yielded ops a.tmps) = true)
    (hh : ∃ (f : FuncId) (args : Array Value), (∀ w, (execOp a.eval o).run P w = .ok (.enter f args) w) ∧
      (∀ w n, J (n + 1) w → (∀ e ∈ o.after, Region.binds .any e = true → F e.on w) → Calls P f args w fun e w' => ∃ x, e = .returned (s.f x) ∧ s.V x w' ∧ J n w' ∧ R w w'))
    (h : ∀ x : s.α, relAt P ops J R S Q (k + 1) rest (a.put o.dst (s.f x)) (upd F k (s.V x))) : relAt P ops J R S Q k (o :: rest) a F := relAt_callW s hS hw hh h
end
end
end Go.Proofs.YtgbjlccgnfcnaaaGreat
