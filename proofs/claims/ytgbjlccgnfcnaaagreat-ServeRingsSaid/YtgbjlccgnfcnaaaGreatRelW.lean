/- Rel with weights: J is told how much is still to come. No condition. -/
import Derived.Test.YtgbjlccgnfcnaaaGreatRelU
namespace Go.Proofs.YtgbjlccgnfcnaaaGreat
open Go.RowKit
def wsum (W : Nat → Nat) (r : Nat → Bool) : Nat → Nat
  | 0 => 0
  | p + 1 => wsum W r p + (if r p then W p else 0)
theorem wsum_same {W : Nat → Nat} {r r' : Nat → Bool} : ∀ p, (∀ j, j < p → r j = r' j) → wsum W r p = wsum W r' p
  | 0, _ => rfl
  | p + 1, h => by unfold wsum; rw [wsum_same p (fun j hj => h j (by omega)), h p (by omega)]
theorem wsum_none {W : Nat → Nat} {r : Nat → Bool} : ∀ p, (∀ j, j < p → r j = false) → wsum W r p = 0
  | 0, _ => rfl
  | p + 1, h => by unfold wsum; rw [wsum_none p (fun j hj => h j (by omega)), h p (by omega)]; rfl
theorem wsum_off {W : Nat → Nat} {r : Nat → Bool} {k : Nat} (hr : r k = true) : ∀ p, k < p → wsum W r p = wsum W (off r k) p + W k
  | p + 1, h => by
    unfold wsum
    by_cases hp : p = k
    · subst hp
      rw [hr, wsum_same (r' := off r p) p (fun j hj => by simp [off]; intro h1 h2; omega)]
      simp [off]
    · rw [wsum_off hr p (by omega), show off r k p = r p by simp [off, hp]]
      omega
section
variable {P : Program} {ops : Array Oper} {W : Nat → Nat} {J : Nat → World → Prop} {R : World → World → Prop} {S : Nat → Option Spec}
/-- The walk, the operations' numbers from k on. -/
def relAtW (P : Program) (ops : Array Oper) (W : Nat → Nat) (J : Nat → World → Prop) (R : World → World → Prop) (S : Nat → Option Spec) (Q : Act → World → Prop) (k : Nat) (l : List Oper) (a : Act) (F : Nat → World → Prop) : Prop :=
  k + l.length ≤ ops.size → relAtU P ops (k + l.length) (fun r w => J (wsum W r (k + l.length)) w) (fun _ => R) S Q k l a F
theorem wp_region_relW {id : Nat} {Q : Exit → Act → World → Prop} {a : Act} {w : World} {l : List Oper} (p : Nat) (W : Nat → Nat) (J : Nat → World → Prop) (R : World → World → Prop) (S : Nat → Option Spec) (hm : P.follows .mixedOrders = true) (hB : relB l.toArray p = true)
    (hJ : ∀ i k w, J (k + W i) w → J k w) (hS : ∀ i s, S i = some s → ∀ x w w', R w w' → s.V x w → s.V x w') (N : Nat) (hN : wsum W (fun _ => true) p = N) (h0 : J N w.drew)
    (h : relAtW P l.toArray W J R S (fun a w => wpList P l.toArray Q (l.drop p) a w) 0 (l.take p) a (fun _ _ => True)) : (Code.region id l.toArray true).wp P Q a w := by
  have hle : p ≤ l.length := by simpa using relB_le hB
  have hlen : 0 + (l.take p).length = p := by simp; omega
  have h1 := h (by rw [hlen]; simpa using hle)
  rw [hlen] at h1
  refine wp_region_relU p (fun r w => J (wsum W r p) w) (fun _ => R) S hm hB (fun i r w _ hg hw => ?_) (fun i s _ hs _ => hS i s hs) ?_ h1
  · by_cases hi : i < p
    · refine hJ i _ w ?_
      rw [← wsum_off hg.mine p hi]; exact hw
    · rw [wsum_same (r' := r) p (fun j hj => by simp [off]; intro _; omega)]; exact hw
  · rw [wsum_same (r' := fun _ => true) p (fun j hj => by simp; omega), hN]; exact h0
section
variable {Q : Act → World → Prop} {k : Nat} {o : Oper} {rest : List Oper} {a : Act} {F : Nat → World → Prop}
theorem wsum_at {n : Nat → Bool} (hg : Good ops k n) (p : Nat) (hp : k < p) {w : World} (h : J (wsum W n p) w) : J (wsum W (off n k) p + W k) w := by rw [← wsum_off hg.mine p hp]; exact h
theorem relAtW_next (h : relAtW P ops W J R S Q (k + 1) rest a F) (hle : k + (o :: rest).length ≤ ops.size) : relAtU P ops (k + (o :: rest).length) (fun r w => J (wsum W r (k + (o :: rest).length)) w) (fun _ => R) S Q (k + 1) rest a F := by
  have e : k + (o :: rest).length = k + 1 + rest.length := by simp; omega
  rw [e] at hle ⊢
  exact h hle
theorem relAt_nilW (h : ∀ w, J 0 w → (∀ i, F i w) → Q a w) : relAtW P ops W J R S Q k [] a F := fun _ w r hr hJ hF => h w (by
  have : wsum W r (k + 0) = 0 := wsum_none _ (fun j hj => by rw [hr j (by simp at *; omega)]; simp; omega)
  rw [← this]; exact hJ) hF
theorem relAt_detW (hS : S k = none) (hw : Region.wanted o (yielded ops a.tmps) = true) (h : ∃ u, (∀ w n, J (n + W k) w → (execOp a.eval o).run P w = .ok (.value u) w) ∧ relAtW P ops W J R S Q (k + 1) rest (a.put o.dst u) F) :
    relAtW P ops W J R S Q k (o :: rest) a F := fun hle => by
  obtain ⟨u, hu, h⟩ := h
  exact relAt_detU hS hw ⟨u, fun w n hg hJ => hu w _ (wsum_at hg _ (by simp) hJ), relAtW_next h hle⟩
theorem dEW {u : Value} (h2 : ∀ w n, J (n + W k) w → (execOp a.eval o).run P w = .ok (.value u) w) (h3 : relAtW P ops W J R S Q (k + 1) rest (a.put o.dst u) F) (hS : S k = none := by exact rfl) (hw : Region.wanted o (yielded ops a.tmps) = true := by exact rfl) :
    relAtW P ops W J R S Q k (o :: rest) a F := relAt_detW hS hw ⟨u, h2, h3⟩
theorem relAt_noneW (hS : S k = none) (hw : Region.wanted o (yielded ops a.tmps) = true) (hu : ∀ w n, J (n + W k) w → (execOp a.eval o).run P w = .ok .skip w) (h : relAtW P ops W J R S Q (k + 1) rest (a.put o.dst undef) F) :
    relAtW P ops W J R S Q k (o :: rest) a F := fun hle => relAt_noneU hS hw (fun w n hg hJ => hu w _ (wsum_at hg _ (by simp) hJ)) (relAtW_next h hle)
theorem relAt_skipW (hw : Region.wanted o (yielded ops a.tmps) = false) (h : relAtW P ops W J R S Q (k + 1) rest (a.put o.dst undef) F) : relAtW P ops W J R S Q k (o :: rest) a F := fun hle => relAt_skipU hw (relAtW_next h hle)
theorem relAt_valueW (s : Spec) (hS : S k = some s) (hw : Region.wanted o (yielded ops a.tmps) = true)
    (hu : ∀ w n, J (n + W k) w → (∀ e ∈ o.after, Region.binds .any e = true → F e.on w) → ∃ x w', (execOp a.eval o).run P w = .ok (.value (s.f x)) w' ∧ s.V x w' ∧ J n w' ∧ R w w')
    (h : ∀ x : s.α, relAtW P ops W J R S Q (k + 1) rest (a.put o.dst (s.f x)) (upd F k (s.V x))) : relAtW P ops W J R S Q k (o :: rest) a F := fun hle => relAt_valueU s hS hw (fun w n hg hJ hF => hu w _ (wsum_at hg _ (by simp) hJ) hF) (fun x => relAtW_next (h x) hle)
theorem relAt_callW (s : Spec) (hS : S k = some s) (hw : Region.wanted o (yielded ops a.tmps) = true)
    (hh : ∃ (f : FuncId) (args : Array Value), (∀ w, (execOp a.eval o).run P w = .ok (.enter f args) w) ∧
      (∀ w n, J (n + W k) w → (∀ e ∈ o.after, Region.binds .any e = true → F e.on w) → Calls P f args w fun e w' => ∃ x, e = .returned (s.f x) ∧ s.V x w' ∧ J n w' ∧ R w w'))
    (h : ∀ x : s.α, relAtW P ops W J R S Q (k + 1) rest (a.put o.dst (s.f x)) (upd F k (s.V x))) : relAtW P ops W J R S Q k (o :: rest) a F := fun hle => by
  obtain ⟨f, args, hr, hu⟩ := hh
  exact relAt_callU s hS hw ⟨f, args, hr, fun w n hg hJ hF => hu w _ (wsum_at hg _ (by simp) hJ) hF⟩ (fun x => relAtW_next (h x) hle)
theorem relAt_sayW (s : Spec) (hS : S k = some s) (hw : Region.wanted o (yielded ops a.tmps) = true) (hf : ∀ x, s.f x = undef)
    (hu : ∀ w n, J (n + W k) w → (∀ e ∈ o.after, Region.binds .any e = true → F e.on w) → ∃ x w', (execOp a.eval o).run P w = .ok .skip w' ∧ s.V x w' ∧ J n w' ∧ R w w')
    (h : ∀ x : s.α, relAtW P ops W J R S Q (k + 1) rest (a.put o.dst undef) (upd F k (s.V x))) : relAtW P ops W J R S Q k (o :: rest) a F :=
  fun hle => relAt_sayU s hS hw hf (fun w n hg hJ hF => hu w _ (wsum_at hg _ (by simp) hJ) hF) (fun x => relAtW_next (h x) hle)
end
end
end Go.Proofs.YtgbjlccgnfcnaaaGreat
