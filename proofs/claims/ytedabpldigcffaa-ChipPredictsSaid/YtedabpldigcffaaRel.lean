/- A region that draws its order, walked once in the order of the text, where calls may return any value of a described kind and may turn the world within a class that counts down. No condition. -/
import Derived.Test.YtedabpldigcffaaBase
import Derived.Deep.Quiet
namespace Go.Proofs.Ytedabpldigcffaa
open Go.RowKit

/-- What an operation may hand back: f x for some x, with a fact on x and the world. -/
structure Spec where
  α : Type
  d : α
  f : α → Value
  V : α → World → Prop

section
variable {P : Program} {ops : Array Oper} {J : Nat → World → Prop} {R : World → World → Prop} {S : Nat → Option Spec}

def someUpon (P : Program) (J' : World → Prop) (V : Value → World → Prop) : Result Next → Prop
  | .ok (.value u) w' => V u w' ∧ J' w'
  | .ok .skip w' => V undef w' ∧ J' w'
  | .ok (.enter f args) w' => Calls P f args w' fun e w'' => ∃ v, e = .returned v ∧ V v w'' ∧ J' w''
  | _ => False
/-- The operation hands back a value with V, and leaves a world of J'. -/
def someAt (P : Program) (o : Oper) (a : Act) (J' : World → Prop) (V : Value → World → Prop) (w : World) : Prop := someUpon P J' V ((execOp a.eval o).run P w)
def detUpon (u : Value) (w : World) : Result Next → Prop
  | .ok (.value v) w' => w' = w ∧ v = u
  | .ok .skip w' => w' = w ∧ undef = u
  | _ => False
/-- The operation hands back u, and leaves the world as it is. -/
def detAt (P : Program) (o : Oper) (a : Act) (u : Value) (w : World) : Prop := detUpon u w ((execOp a.eval o).run P w)

theorem detAt_unique {o : Oper} {a : Act} {u v : Value} {w : World} (h : detAt P o a u w) (k : detAt P o a v w) : u = v := by
  unfold detAt at h k
  generalize (execOp a.eval o).run P w = r at *
  cases r with
  | ok n w' =>
    cases n <;> simp only [detUpon] at h k
    case value x => exact h.2.symm.trans k.2
    case skip => exact h.2.symm.trans k.2
  | halt x w' => exact h.elim

/-- The facts on what was handed back, with one more. -/
def upd (F : Nat → World → Prop) (i : Nat) (A : World → Prop) : Nat → World → Prop := fun j w => if j = i then A w else F j w

/-- The walk in the order of the text. -/
def wpRel (P : Program) (ops : Array Oper) (J : Nat → World → Prop) (R : World → World → Prop) (S : Nat → Option Spec) (Q : Act → World → Prop) : List (Nat × Oper) → Act → (Nat → World → Prop) → Prop
  | [], a, F => ∀ w, J 0 w → (∀ i, F i w) → Q a w
  | (i, o) :: rest, a, F =>
    if Region.wanted o (yielded ops a.tmps) then
      match S i with
      | none => ∃ u, (∀ w k, J (k + 1) w → detAt P o a u w) ∧ wpRel P ops J R S Q rest (a.put o.dst u) F
      | some s => (∀ w k, J (k + 1) w → (∀ e ∈ o.after, Region.binds .any e = true → F e.on w) → someAt P o a (fun w' => J k w' ∧ R w w') (fun v w' => ∃ x, v = s.f x ∧ s.V x w') w) ∧
          ∀ x : s.α, wpRel P ops J R S Q rest (a.put o.dst (s.f x)) (upd F i (s.V x))
    else wpRel P ops J R S Q rest (a.put o.dst undef) F

/-- What one operation that comes up must show. -/
def One (P : Program) (ops : Array Oper) (J : Nat → World → Prop) (R : World → World → Prop) (S : Nat → Option Spec) (i : Nat) (o : Oper) (a : Act) (F : Nat → World → Prop) (K : Act → (Nat → World → Prop) → Prop) : Prop :=
  if Region.wanted o (yielded ops a.tmps) then
    match S i with
    | none => ∃ u, (∀ w k, J (k + 1) w → detAt P o a u w) ∧ K (a.put o.dst u) F
    | some s => (∀ w k, J (k + 1) w → (∀ e ∈ o.after, Region.binds .any e = true → F e.on w) → someAt P o a (fun w' => J k w' ∧ R w w') (fun v w' => ∃ x, v = s.f x ∧ s.V x w') w) ∧
        ∀ x : s.α, K (a.put o.dst (s.f x)) (upd F i (s.V x))
  else K (a.put o.dst undef) F
theorem wpRel_cons {Q : Act → World → Prop} {i : Nat} {o : Oper} {rest : List (Nat × Oper)} {a : Act} {F : Nat → World → Prop} :
    wpRel P ops J R S Q ((i, o) :: rest) a F = One P ops J R S i o a F (wpRel P ops J R S Q rest) := rfl

theorem upd_comm {F : Nat → World → Prop} {i j : Nat} {A B : World → Prop} (h : i ≠ j) : upd (upd F i A) j B = upd (upd F j B) i A := by
  funext k w
  unfold upd
  by_cases h1 : k = i
  · subst h1; simp [h]
  · by_cases h2 : k = j
    · subst h2; simp [Ne.symm h]
    · simp [h1, h2]

/-- Is x's slot put by y's walk apart? Both ways. -/
theorem someAt_put {o : Oper} (hs : ∀ cs b, o.op ≠ .select cs b) {a : Act} {dst : Option Tmp} {v : Value} (h : ∀ d, dst = some d → d ∉ o.looksAt ops) {J' : World → Prop} {V : Value → World → Prop} {w : World} :
    someAt P o (a.put dst v) J' V w ↔ someAt P o a J' V w := by
  unfold someAt; rw [execOp_put (ops := ops) o hs a dst v h]
theorem detAt_put {o : Oper} (hs : ∀ cs b, o.op ≠ .select cs b) {a : Act} {dst : Option Tmp} {v : Value} (h : ∀ d, dst = some d → d ∉ o.looksAt ops) {u : Value} {w : World} :
    detAt P o (a.put dst v) u w ↔ detAt P o a u w := by
  unfold detAt; rw [execOp_put (ops := ops) o hs a dst v h]

/-- Two operations of which neither waits for the other change places. -/
theorem One_swap {i j : Nat} {oi oj : Oper} {a : Act} {F : Nat → World → Prop} {K : Act → (Nat → World → Prop) → Prop} (hij : i ≠ j) (hsi : ∀ cs b, oi.op ≠ .select cs b) (hsj : ∀ cs b, oj.op ≠ .select cs b)
    (hap : oj.apart ops oi = true) (hi : ∀ e ∈ oi.after, Region.binds .any e = true → e.on ≠ j) (hj : ∀ e ∈ oj.after, Region.binds .any e = true → e.on ≠ i)
    (hw : ∃ w k, J (k + 1) w)
    (h : One P ops J R S j oj a F fun a' F' => One P ops J R S i oi a' F' K) : One P ops J R S i oi a F fun a' F' => One P ops J R S j oj a' F' K := by
  obtain ⟨h1, h2, h3⟩ := Oper.apart_spec hap
  have h2' : ∀ d, oi.dst = some d → oj.dst ≠ some d := fun d hd he => h2 d he hd
  obtain ⟨w0, k0, hw0⟩ := hw
  have wi : ∀ v, Region.wanted oi (yielded ops (a.put oj.dst v).tmps) = Region.wanted oi (yielded ops a.tmps) := fun v => wanted_put oi a oj.dst v h1
  have wj : ∀ v, Region.wanted oj (yielded ops (a.put oi.dst v).tmps) = Region.wanted oj (yielded ops a.tmps) := fun v => wanted_put oj a oi.dst v h3
  unfold One at h ⊢
  simp only [wi, wj] at h ⊢
  by_cases cj : Region.wanted oj (yielded ops a.tmps) = true
  · simp only [cj, if_true] at h ⊢
    by_cases ci : Region.wanted oi (yielded ops a.tmps) = true
    · simp only [ci, if_true] at h ⊢
      cases hSi : S i with
      | none =>
        cases hSj : S j with
        | none =>
          simp only [hSi, hSj] at h ⊢
          obtain ⟨u, hu, v, hv, hK⟩ := h
          refine ⟨v, fun w k hJ => (detAt_put (ops := ops) hsi h1).1 (hv w k hJ), u, fun w k hJ => (detAt_put (ops := ops) hsj h3).2 (hu w k hJ), ?_⟩
          rw [Act.put_comm a v u h2']; exact hK
        | some s =>
          simp only [hSi, hSj] at h ⊢
          obtain ⟨hu, hx⟩ := h
          obtain ⟨v, hv, _⟩ := hx s.d
          refine ⟨v, fun w k hJ => (detAt_put (ops := ops) hsi h1).1 (hv w k hJ), fun w k hJ hF => (someAt_put (ops := ops) hsj h3).2 (hu w k hJ hF), fun x => ?_⟩
          obtain ⟨v', hv', hK⟩ := hx x
          have : v' = v := detAt_unique ((detAt_put (ops := ops) hsi h1).1 (hv' w0 k0 hw0)) ((detAt_put (ops := ops) hsi h1).1 (hv w0 k0 hw0))
          subst this
          rw [Act.put_comm a _ _ h2']; exact hK
      | some t =>
        cases hSj : S j with
        | none =>
          simp only [hSi, hSj] at h ⊢
          obtain ⟨u, hu, hv, hK⟩ := h
          refine ⟨fun w k hJ hF => (someAt_put (ops := ops) hsi h1).1 (hv w k hJ hF), fun y => ⟨u, fun w k hJ => (detAt_put (ops := ops) hsj h3).2 (hu w k hJ), ?_⟩⟩
          rw [Act.put_comm a _ _ h2']; exact hK y
        | some s =>
          simp only [hSi, hSj] at h ⊢
          obtain ⟨hu, hx⟩ := h
          refine ⟨fun w k hJ hF => (someAt_put (ops := ops) hsi h1).1 ((hx s.d).1 w k hJ (fun e he hb => by have := hi e he hb; simp only [upd, if_neg this]; exact hF e he hb)), fun y => ⟨fun w k hJ hF => (someAt_put (ops := ops) hsj h3).2 (hu w k hJ (fun e he hb => by have h0 := hF e he hb; simp only [upd, if_neg (hj e he hb)] at h0; exact h0)), fun x => ?_⟩⟩
          rw [Act.put_comm a _ _ h2', upd_comm hij]; exact (hx x).2 y
    · have ci' : Region.wanted oi (yielded ops a.tmps) = false := by simpa using ci
      simp only [ci', Bool.false_eq_true, if_false] at h ⊢
      cases hSj : S j with
      | none =>
        simp only [hSj] at h ⊢
        obtain ⟨u, hu, hK⟩ := h
        refine ⟨u, fun w k hJ => (detAt_put (ops := ops) hsj h3).2 (hu w k hJ), ?_⟩
        rw [Act.put_comm a _ _ h2']; exact hK
      | some s =>
        simp only [hSj] at h ⊢
        obtain ⟨hu, hx⟩ := h
        refine ⟨fun w k hJ hF => (someAt_put (ops := ops) hsj h3).2 (hu w k hJ hF), fun x => ?_⟩
        rw [Act.put_comm a _ _ h2']; exact hx x
  · have cj' : Region.wanted oj (yielded ops a.tmps) = false := by simpa using cj
    simp only [cj', Bool.false_eq_true, if_false] at h ⊢
    by_cases ci : Region.wanted oi (yielded ops a.tmps) = true
    · simp only [ci, if_true] at h ⊢
      cases hSi : S i with
      | none =>
        simp only [hSi] at h ⊢
        obtain ⟨v, hv, hK⟩ := h
        refine ⟨v, fun w k hJ => (detAt_put (ops := ops) hsi h1).1 (hv w k hJ), ?_⟩
        rw [Act.put_comm a _ _ h2']; exact hK
      | some t =>
        simp only [hSi] at h ⊢
        obtain ⟨hv, hK⟩ := h
        refine ⟨fun w k hJ hF => (someAt_put (ops := ops) hsi h1).1 (hv w k hJ hF), fun y => ?_⟩
        rw [Act.put_comm a _ _ h2']; exact hK y
    · have ci' : Region.wanted oi (yielded ops a.tmps) = false := by simpa using ci
      simp only [ci', Bool.false_eq_true, if_false] at h ⊢
      rw [Act.put_comm a _ _ h2']; exact h

theorem One_mono {i : Nat} {o : Oper} {a : Act} {F : Nat → World → Prop} {K K' : Act → (Nat → World → Prop) → Prop} (hK : ∀ a F, K a F → K' a F) (h : One P ops J R S i o a F K) : One P ops J R S i o a F K' := by
  unfold One at *
  split
  · rename_i c
    simp only [c, if_true] at h
    cases hS : S i with
    | none => simp only [hS] at h ⊢; exact ⟨h.choose, h.choose_spec.1, hK _ _ h.choose_spec.2⟩
    | some s => simp only [hS] at h ⊢; exact ⟨h.1, fun x => hK _ _ (h.2 x)⟩
  · rename_i c
    simp only [c] at h
    exact hK _ _ h

/-- An operation that waits for none of those ahead of it comes up first. -/
theorem wpRel_pull {Q : Act → World → Prop} (hw : ∃ w k, J (k + 1) w) {i : Nat} {oi : Oper} {l2 : List (Nat × Oper)} (hsi : ∀ cs b, oi.op ≠ .select cs b) :
    ∀ (l1 : List (Nat × Oper)) (a : Act) (F : Nat → World → Prop),
      (∀ j oj, (j, oj) ∈ l1 → i ≠ j ∧ (∀ cs b, oj.op ≠ .select cs b) ∧ oj.apart ops oi = true ∧ (∀ e ∈ oi.after, Region.binds .any e = true → e.on ≠ j) ∧ (∀ e ∈ oj.after, Region.binds .any e = true → e.on ≠ i)) →
      wpRel P ops J R S Q (l1 ++ (i, oi) :: l2) a F → One P ops J R S i oi a F (wpRel P ops J R S Q (l1 ++ l2))
  | [], _, _, _, h => h
  | (j, oj) :: l1, a, F, hl, h => by
    obtain ⟨h1, h2, h3, h4, h5⟩ := hl j oj (by simp)
    rw [List.cons_append, wpRel_cons] at h
    have h' := One_mono (fun a' F' hh => wpRel_pull hw hsi l1 a' F' (fun k ok hk => hl k ok (by simp [hk])) hh) h
    exact One_swap h1 hsi h2 h3 h4 h5 hw h'

theorem wp_of_someAt {o : Oper} {a : Act} {J' : World → Prop} {V : Value → World → Prop} {w : World} {K : Act → World → Prop} {Q : Exit → Act → World → Prop} (h : someAt P o a J' V w)
    (hK : ∀ v w', V v w' → J' w' → K (a.put o.dst v) w') : o.wp P a w K Q := by
  unfold someAt at h
  unfold Oper.wp
  generalize (execOp a.eval o).run P w = r at *
  cases r with
  | ok n w' =>
    cases n <;> simp only [someUpon] at h <;> simp only [Oper.upon]
    case value u => exact hK _ _ h.1 h.2
    case skip => exact hK _ _ h.1 h.2
    case enter f args => exact h.mono fun e w'' ⟨v, he, hv, hj⟩ => by subst he; exact hK _ _ hv hj
  | halt x w' => exact h.elim
theorem wp_of_detAt {o : Oper} {a : Act} {u : Value} {w : World} {K : Act → World → Prop} {Q : Exit → Act → World → Prop} (h : detAt P o a u w) (hK : K (a.put o.dst u) w) : o.wp P a w K Q := by
  unfold detAt at h
  unfold Oper.wp
  generalize (execOp a.eval o).run P w = r at *
  cases r with
  | ok n w' =>
    cases n <;> simp only [detUpon] at h <;> simp only [Oper.upon]
    case value v => obtain ⟨rfl, rfl⟩ := h; exact hK
    case skip => obtain ⟨rfl, rfl⟩ := h; exact hK
  | halt x w' => exact h.elim

/-- What is asked of the region's text: the first p operations may come up in some order, those behind them come up in the order of the text when all others have. -/
def relB (ops : Array Oper) (p : Nat) : Bool :=
  Region.noSelect ops && decide (p ≤ ops.size) && (List.range ops.size).all fun i => match ops[i]? with
    | none => false
    | some oi => (oi.after.all fun e => !Region.binds .any e || decide (e.on < i)) &&
        if i < p then (List.range i).all fun j => (oi.after.any fun e => Region.binds .any e && e.on == j) || match ops[j]? with | some oj => oj.apart ops oi | none => false
        else (List.range i).all fun j => (List.range i).any fun d => match ops[i - d]? with | some ok => decide (j < i - d) && ok.after.any fun e => Region.binds .any e && e.on == j | none => false

theorem relB_spec {p : Nat} (h : relB ops p = true) {i : Nat} {oi : Oper} (hi : ops[i]? = some oi) :
    (∀ e ∈ oi.after, Region.binds .any e = true → e.on < i) ∧
    (i < p → ∀ j oj, j < i → ops[j]? = some oj → (∀ e ∈ oi.after, Region.binds .any e = true → e.on ≠ j) → oj.apart ops oi = true) ∧
    (p ≤ i → ∀ j, j < i → ∃ k ok, j < k ∧ k ≤ i ∧ ops[k]? = some ok ∧ ∃ e ∈ ok.after, Region.binds .any e = true ∧ e.on = j) := by
  simp only [relB, Bool.and_eq_true, List.all_eq_true, List.mem_range] at h
  have hlt : i < ops.size := (Array.getElem?_eq_some_iff.1 hi).1
  have h1 := h.2 i hlt
  simp only [hi, Bool.and_eq_true, Array.all_eq_true_iff_forall_mem, Bool.or_eq_true, Bool.not_eq_true', decide_eq_true_eq] at h1
  refine ⟨fun e he hb => (h1.1 e he).resolve_left (by simp [hb]), fun hip j oj hj hoj hno => ?_, fun hip j hj => ?_⟩
  · have h2 := h1.2
    rw [if_pos hip] at h2
    simp only [List.all_eq_true, List.mem_range, Bool.or_eq_true] at h2
    rcases h2 j hj with h2 | h2
    · obtain ⟨e, he, hb⟩ := Array.any_eq_true'.1 h2
      simp only [Bool.and_eq_true, beq_iff_eq] at hb
      exact absurd hb.2 (hno e he hb.1)
    · simpa [hoj] using h2
  · have h2 := h1.2
    rw [if_neg (by omega)] at h2
    simp only [List.all_eq_true, List.mem_range, List.any_eq_true] at h2
    obtain ⟨d, hd, h3⟩ := h2 j hj
    cases hk : ops[i - d]? with
    | none => simp [hk] at h3
    | some ok =>
      simp only [hk, Bool.and_eq_true, decide_eq_true_eq] at h3
      obtain ⟨e, he, hb⟩ := Array.any_eq_true'.1 h3.2
      simp only [Bool.and_eq_true, beq_iff_eq] at hb
      exact ⟨i - d, ok, h3.1, by omega, hk, e, he, hb⟩

/-- Of the operations that have come up, all forerunners have. -/
def Shut (ops : Array Oper) (listed : Array Bool) : Prop := ∀ k ok, ops[k]? = some ok → listed.getD k false = true → ∀ e ∈ ok.after, Region.binds .any e = true → listed.getD e.on false = true
theorem Shut.set {listed : Array Bool} (h : Shut ops listed) {i : Nat} {oi : Oper} (hi : ops[i]? = some oi) (hall : ∀ e ∈ oi.after, Region.binds .any e = true → listed.getD e.on false = true) : Shut ops (listed.setIfInBounds i true) := by
  intro k ok hk hl e he hb
  by_cases hki : k = i
  · subst hki
    rw [hi] at hk
    cases hk
    exact getD_set_true (hall e he hb)
  · rw [getD_set_ne false (Ne.symm hki)] at hl
    exact getD_set_true (h k ok hk hl e he hb)
/-- An operation of the tail comes up behind all that stand ahead of it. -/
theorem all_listed {p : Nat} (hB : relB ops p = true) {listed : Array Bool} (hsh : Shut ops listed) {i : Nat} {oi : Oper} (hi : ops[i]? = some oi) (hip : p ≤ i)
    (hall : ∀ e ∈ oi.after, Region.binds .any e = true → listed.getD e.on false = true) : ∀ d j, i - j ≤ d → j < i → listed.getD j false = true := by
  intro d
  induction d with
  | zero => intro j h1 h2; omega
  | succ d ih =>
    intro j h1 h2
    obtain ⟨k, ok, hjk, hki, hok, e, he, hb, heq⟩ := (relB_spec hB hi).2.2 hip j h2
    rcases Nat.lt_or_ge k i with hlt | hge
    · have := hsh k ok hok (ih k (by omega) hlt) e he hb
      rw [heq] at this; exact this
    · have hke : k = i := by omega
      subst hke
      rw [hi] at hok
      cases hok
      have := hall e he hb
      rw [heq] at this; exact this

theorem relB_sel {p : Nat} (hB : relB ops p = true) (j : Nat) (o : Oper) (cs : Array SelectCase) (b : Bool) (ho : ops[j]? = some o) : o.op ≠ .select cs b := by
  simp only [relB, Bool.and_eq_true] at hB
  exact Region.noSelect_spec hB.1.1 j o cs b ho
theorem relB_le {p : Nat} (hB : relB ops p = true) : p ≤ ops.size := by
  simp only [relB, Bool.and_eq_true, decide_eq_true_eq] at hB
  exact hB.1.2

/-- An operation whose forerunners have all come up. -/
theorem getD_true_of {listed : Array Bool} {j : Nat} (hj : j < listed.size) (h : ¬ listed.getD j true = false) : listed.getD j false = true := by
  simp [Array.getElem?_eq_getElem hj] at h ⊢
  exact h
theorem getD_false_of {listed : Array Bool} {j : Nat} (hj : j < listed.size) (h : listed.getD j false = true) : ¬ listed.getD j true = false := by
  simp [Array.getElem?_eq_getElem hj] at h ⊢
  exact h

/-- The operations behind the first p, in the order of the text. -/
theorem wpAny_tail {p : Nat} {Q' : Exit → Act → World → Prop} (hB : relB ops p = true) :
    ∀ (l : List Oper) (k : Nat) (listed : Array Bool) (a : Act) (w : World), p ≤ k → listed.size = ops.size → k + l.length = ops.size → (∀ j, l[j]? = ops[k + j]?) →
      (∀ j, j < ops.size → (listed.getD j true = false ↔ k ≤ j)) → Shut ops listed → wpList P ops Q' l a w → wpAny P .any ops Q' l.length listed a w
  | [], k, listed, a, w, hp, hsz, hlen, hl, hun, hsh, h => by
    refine ⟨?_, h⟩
    apply List.eq_nil_iff_forall_not_mem.2
    intro i hi
    obtain ⟨h0, o, ho, _⟩ := mem_ready.1 hi
    have hio : i < ops.size := (Array.getElem?_eq_some_iff.1 ho).1
    have := (hun i hio).1 h0
    simp at hlen
    omega
  | o :: l, k, listed, a, w, hp, hsz, hlen, hl, hun, hsh, h => by
    have hk : ops[k]? = some o := by simpa using (hl 0).symm
    have hko : k < ops.size := (Array.getElem?_eq_some_iff.1 hk).1
    have hready : k ∈ Region.ready .any ops listed := by
      refine mem_ready.2 ⟨(hun k hko).2 (Nat.le_refl _), o, hk, fun e he hb => ?_⟩
      have hlt := (relB_spec hB hk).1 e he hb
      exact getD_true_of (by omega) (fun hg => by have := (hun e.on (by omega)).1 hg; omega)
    refine ⟨fun hr => (by rw [hr] at hready; cases hready), fun i hi => ?_⟩
    obtain ⟨h0, oi, hoi, hall⟩ := mem_ready.1 hi
    have hio : i < ops.size := (Array.getElem?_eq_some_iff.1 hoi).1
    have hki : k ≤ i := (hun i hio).1 h0
    have hik : i = k := by
      rcases Nat.lt_or_ge k i with hlt | hge
      · exfalso
        exact getD_false_of (by omega) (all_listed hB hsh hoi (by omega) hall _ k (Nat.le_refl _) hlt) ((hun k hko).2 (Nat.le_refl _))
      · omega
    subst hik
    have hrec : ∀ a' w', wpList P ops Q' l a' w' → wpAny P .any ops Q' l.length (listed.setIfInBounds i true) a' w' := fun a' w' h' =>
      wpAny_tail hB l (i + 1) _ a' w' (by omega) (by simpa using hsz) (by simp at hlen; omega) (fun j => by have := hl (j + 1); simpa [Nat.add_assoc, Nat.add_comm 1 j] using this) (fun j hj => by
        by_cases hji : j = i
        · subst hji; simp [show j < listed.size by omega]
        · rw [getD_set_ne true (Ne.symm hji), hun j hj]; omega) (hsh.set hoi hall) h'
    unfold wpOp
    rw [hoi]
    have hoe : oi = o := by rw [hk] at hoi; exact (Option.some.inj hoi).symm
    subst hoe
    unfold wpList at h
    show if Region.wanted oi (yielded ops a.tmps) = true then _ else _
    split
    · rename_i hw; rw [if_pos hw] at h; exact h.imp (Oper.wp_mono hrec) id
    · rename_i hw; rw [if_neg hw] at h; exact hrec _ _ h

/-- Whatever order is picked. -/
theorem wpAny_of_rel {p m : Nat} {Q : Act → World → Prop} {Q' : Exit → Act → World → Prop} (hB : relB ops p = true)
    (hQ : ∀ listed a w, listed.size = ops.size → (∀ j, j < ops.size → (listed.getD j true = false ↔ p ≤ j)) → Shut ops listed → Q a w → wpAny P .any ops Q' m listed a w)
    (hJ : ∀ k w, J (k + 1) w → J k w) (hS : ∀ i s, S i = some s → ∀ x w w', R w w' → s.V x w → s.V x w') :
    ∀ (n : Nat) (l : List (Nat × Oper)) (listed : Array Bool) (a : Act) (w : World) (F : Nat → World → Prop), l.length = n → listed.size = ops.size →
      (∀ j oj, (j, oj) ∈ l ↔ ops[j]? = some oj ∧ j < p ∧ listed.getD j true = false) → (∀ j, j < ops.size → p ≤ j → listed.getD j true = false) → (l.map (·.1)).Pairwise (· < ·) →
      (∀ j w w', R w w' → F j w → F j w') → (∀ j, F j w) → J n w → Shut ops listed → wpRel P ops J R S Q l a F → wpAny P .any ops Q' (n + m) listed a w := by
  have hns := fun j o cs b => relB_sel (ops := ops) hB j o cs b
  have hle := relB_le hB
  intro n
  induction n with
  | zero =>
    intro l listed a w F hl hsz hmem htl hsort hst hF hj hsh h
    have hl0 : l = [] := List.eq_nil_of_length_eq_zero hl
    subst hl0
    rw [Nat.zero_add]
    refine hQ _ _ _ hsz (fun j hj' => ⟨fun h0 => ?_, htl j hj'⟩) hsh (h w hj hF)
    rcases Nat.lt_or_ge j p with hlt | hge
    · have := (hmem j _).2 ⟨Array.getElem?_eq_getElem hj', hlt, h0⟩
      simp at this
    · exact hge
  | succ n ih =>
    intro l listed a w F hl hsz hmem htl hsort hst hF hj hsh h
    have hfirst : ∃ i oi l', l = (i, oi) :: l' := by
      match l, hl with
      | (i, oi) :: l', _ => exact ⟨i, oi, l', rfl⟩
    rw [show n + 1 + m = (n + m) + 1 by omega]
    refine ⟨fun hr => ?_, fun i hi => ?_⟩
    · -- the first of the list is ready
      exfalso
      obtain ⟨i, oi, l', rfl⟩ := hfirst
      obtain ⟨hoi, hip, hun⟩ := (hmem i oi).1 (by simp)
      have : i ∈ Region.ready .any ops listed := by
        refine mem_ready.2 ⟨hun, oi, hoi, fun e he hb => ?_⟩
        have hlt := (relB_spec hB hoi).1 e he hb
        have hio : i < ops.size := (Array.getElem?_eq_some_iff.1 hoi).1
        have heo : ops[e.on]? = some (ops[e.on]'(by omega)) := Array.getElem?_eq_getElem (by omega)
        refine getD_true_of (by omega) fun hg => ?_
        have hm := (hmem e.on _).2 ⟨heo, by omega, hg⟩
        rcases List.mem_cons.1 hm with h1 | h1
        · have := congrArg Prod.fst h1; simp at this; omega
        · simp only [List.map_cons, List.pairwise_cons] at hsort
          have := hsort.1 e.on (List.mem_map.2 ⟨_, h1, rfl⟩)
          omega
      rw [hr] at this
      cases this
    · obtain ⟨hun, oi, hoi, hall⟩ := mem_ready.1 hi
      have hio : i < ops.size := (Array.getElem?_eq_some_iff.1 hoi).1
      have hnolist : ∀ j, j < ops.size → listed.getD j true = false → ∀ e ∈ oi.after, Region.binds .any e = true → e.on ≠ j := fun j hj' hjf e he hb heq => by
        have h1 := hall e he hb
        rw [heq] at h1
        exact getD_false_of (by omega) h1 hjf
      have hip : i < p := by
        rcases Nat.lt_or_ge i p with hlt | hge
        · exact hlt
        · exfalso
          obtain ⟨j, oj, l', rfl⟩ := hfirst
          obtain ⟨hoj, hjp, hjf⟩ := (hmem j oj).1 (by simp)
          exact getD_false_of (by omega) (all_listed hB hsh hoi hge hall _ j (Nat.le_refl _) (by omega)) hjf
      have hin := (hmem i oi).2 ⟨hoi, hip, hun⟩
      obtain ⟨l1, l2, rfl⟩ := List.append_of_mem hin
      have hnd : ∀ j oj, (j, oj) ∈ l1 ++ l2 → j ≠ i := by
        intro j oj hj' he
        subst he
        rw [List.map_append, List.map_cons, List.pairwise_append] at hsort
        obtain ⟨_, s2, s3⟩ := hsort
        rcases List.mem_append.1 hj' with h1 | h1
        · have := s3 j (List.mem_map.2 ⟨_, h1, rfl⟩) j (by simp)
          omega
        · have := (List.pairwise_cons.1 s2).1 j (List.mem_map.2 ⟨_, h1, rfl⟩)
          omega
      have hmem' : ∀ j oj, (j, oj) ∈ l1 ++ l2 ↔ ops[j]? = some oj ∧ j < p ∧ (listed.setIfInBounds i true).getD j true = false := by
        intro j oj
        by_cases hji : j = i
        · subst hji
          refine ⟨fun h' => absurd rfl (hnd _ _ h'), fun h' => ?_⟩
          have hlt : j < listed.size := by omega
          simp [hlt] at h'
        · rw [getD_set_ne true (Ne.symm hji), ← hmem j oj]
          simp [hji]
      have htl' : ∀ j, j < ops.size → p ≤ j → (listed.setIfInBounds i true).getD j true = false := fun j hj' hpj => by
        rw [getD_set_ne true (by omega)]; exact htl j hj' hpj
      have hsort' : ((l1 ++ l2).map (·.1)).Pairwise (· < ·) := by
        refine List.Pairwise.sublist ?_ hsort
        exact List.Sublist.map _ (List.Sublist.append (List.Sublist.refl l1) (List.sublist_cons_self _ _))
      have hpull := wpRel_pull (P := P) (ops := ops) (J := J) (R := R) (S := S) ⟨w, n, hj⟩ (fun cs b => hns i oi cs b hoi) l1 a F (fun j oj hjl => by
        have hjm := (hmem j oj).1 (List.mem_append_left _ hjl)
        have hjo : j < ops.size := (Array.getElem?_eq_some_iff.1 hjm.1).1
        have hlt : j < i := by
          rw [List.map_append, List.map_cons, List.pairwise_append] at hsort
          exact hsort.2.2 j (List.mem_map.2 ⟨_, hjl, rfl⟩) i (by simp)
        have hno := hnolist j hjo hjm.2.2
        exact ⟨by omega, fun cs b => hns j oj cs b hjm.1, (relB_spec hB hoi).2.1 hip j oj hlt hjm.1 hno, hno, fun e he hb => by have := (relB_spec hB hjm.1).1 e he hb; omega⟩) h
      have hlen : (l1 ++ l2).length = n := by simp at hl ⊢; omega
      unfold wpOp
      rw [hoi]
      show if Region.wanted oi (yielded ops a.tmps) = true then _ else _
      unfold One at hpull
      split
      · rename_i hwd
        left
        simp only [hwd, if_true] at hpull
        cases hSi : S i with
        | none =>
          simp only [hSi] at hpull
          obtain ⟨u, hu, hK⟩ := hpull
          exact wp_of_detAt (hu w n hj) (ih (l1 ++ l2) _ _ w F hlen (by simpa using hsz) hmem' htl' hsort' hst hF (hJ _ _ hj) (hsh.set hoi hall) hK)
        | some s =>
          simp only [hSi] at hpull
          refine wp_of_someAt (hpull.1 w n hj (fun e he hb => hF _)) fun v w' hv hj' => ?_
          obtain ⟨x, rfl, hx⟩ := hv
          refine ih (l1 ++ l2) _ _ w' (upd F i (s.V x)) hlen (by simpa using hsz) hmem' htl' hsort' ?_ ?_ hj'.1 (hsh.set hoi hall) (hpull.2 x)
          · intro j w1 w2 hr hf
            unfold upd at hf ⊢
            split
            · rename_i hh; simp only [hh, if_true] at hf; exact hS i s hSi x _ _ hr hf
            · rename_i hh; simp only [hh, if_false] at hf; exact hst _ _ _ hr hf
          · intro j
            unfold upd
            split
            · exact hx
            · exact hst _ _ _ hj'.2 (hF j)
      · rename_i hwd
        simp only [hwd] at hpull
        exact ih (l1 ++ l2) _ _ w F hlen (by simpa using hsz) hmem' htl' hsort' hst hF (hJ _ _ hj) (hsh.set hoi hall) hpull

/-- The walk, the operations' numbers from k on. -/
def relAt (P : Program) (ops : Array Oper) (J : Nat → World → Prop) (R : World → World → Prop) (S : Nat → Option Spec) (Q : Act → World → Prop) : Nat → List Oper → Act → (Nat → World → Prop) → Prop
  | _, [], a, F => ∀ w, J 0 w → (∀ i, F i w) → Q a w
  | k, o :: rest, a, F => One P ops J R S k o a F (relAt P ops J R S Q (k + 1) rest)
/-- A list with its places. -/
def places : Nat → List Oper → List (Nat × Oper)
  | _, [] => []
  | k, o :: l => (k, o) :: places (k + 1) l
theorem relAt_eq {Q : Act → World → Prop} : ∀ (l : List Oper) (k : Nat) (a : Act) (F : Nat → World → Prop), relAt P ops J R S Q k l a F → wpRel P ops J R S Q (places k l) a F
  | [], _, _, _, h => h
  | _ :: l, k, a, F, h => by
    unfold places
    rw [wpRel_cons]
    exact One_mono (fun a' F' hh => relAt_eq l (k + 1) a' F' hh) h
theorem places_length : ∀ (l : List Oper) (k : Nat), (places k l).length = l.length
  | [], _ => rfl
  | _ :: l, k => by simp [places, places_length l]
theorem mem_places : ∀ (l : List Oper) (k j : Nat) (o : Oper), (j, o) ∈ places k l ↔ k ≤ j ∧ l[j - k]? = some o
  | [], _, _, _ => by simp [places]
  | x :: l, k, j, o => by
    simp only [places, List.mem_cons, Prod.mk.injEq, mem_places l (k + 1) j o]
    rcases Nat.lt_trichotomy j k with h | h | h
    · constructor
      · rintro (⟨h1, _⟩ | ⟨h1, _⟩) <;> omega
      · rintro ⟨h1, _⟩; omega
    · subst h
      simp only [Nat.sub_self, List.getElem?_cons_zero, true_and, Nat.le_refl, Option.some.injEq]
      constructor
      · rintro (h1 | ⟨h1, _⟩)
        · exact h1.symm
        · omega
      · exact fun h1 => .inl h1.symm
    · obtain ⟨d, rfl⟩ : ∃ d, j = k + 1 + d := ⟨j - k - 1, by omega⟩
      have e1 : k + 1 + d - k = d + 1 := by omega
      have e2 : k + 1 + d - (k + 1) = d := by omega
      rw [e1, e2, List.getElem?_cons_succ]
      constructor
      · rintro (⟨h1, _⟩ | ⟨_, h2⟩)
        · omega
        · exact ⟨by omega, h2⟩
      · rintro ⟨_, h2⟩
        exact .inr ⟨by omega, h2⟩
theorem places_sorted : ∀ (l : List Oper) (k : Nat), ((places k l).map (·.1)).Pairwise (· < ·)
  | [], _ => by simp [places]
  | x :: l, k => by
    simp only [places, List.map_cons, List.pairwise_cons]
    refine ⟨fun j hj => ?_, places_sorted l (k + 1)⟩
    obtain ⟨⟨i, o⟩, hm, rfl⟩ := List.mem_map.1 hj
    have := (mem_places l (k + 1) i o).1 hm
    simp
    omega

/-- The region's rule: the first p operations in whatever order, what stands behind them in the order of the text. -/
theorem wp_region_rel {id : Nat} {Q : Exit → Act → World → Prop} {a : Act} {w : World} {l : List Oper} (p : Nat) (J : Nat → World → Prop) (R : World → World → Prop) (S : Nat → Option Spec) (hm : P.follows .mixedOrders = true) (hB : relB l.toArray p = true)
    (hJ : ∀ k w, J (k + 1) w → J k w) (hS : ∀ i s, S i = some s → ∀ x w w', R w w' → s.V x w → s.V x w') (h0 : J p w.drew)
    (h : relAt P l.toArray J R S (fun a w => wpList P l.toArray Q (l.drop p) a w) 0 (l.take p) a (fun _ _ => True)) : (Code.region id l.toArray true).wp P Q a w := by
  have hle : p ≤ l.length := by simpa using relB_le hB
  have hlen : (l.take p).length = p := by simp; omega
  have hsz : l.toArray.size = p + (l.drop p).length := by simp; omega
  refine wp_region_any hm ?_
  rw [hsz]
  refine wpAny_of_rel (m := (l.drop p).length) (Q := fun a w => wpList P l.toArray Q (l.drop p) a w) hB ?_ hJ hS p (places 0 (l.take p)) _ a _ (fun _ _ => True) (by rw [places_length, hlen]) (by simp; omega) ?_ ?_ (places_sorted _ _) (by simp) (by simp) h0 ?_ (relAt_eq _ _ _ _ h)
  · intro listed a' w' hs hun hsh h'
    exact wpAny_tail hB (l.drop p) p listed a' w' (Nat.le_refl _) hs hsz.symm (fun j => by simp) hun hsh h'
  · intro j oj
    rw [mem_places]
    have hd : p + (l.drop p).length = l.length := by simp; omega
    have hr : ∀ j, (Array.replicate (p + (l.drop p).length) false).getD j true = false ↔ j < l.length := fun j => by
      rw [hd]
      by_cases hj : j < l.length <;> simp [hj]
    rw [hr]
    simp only [Nat.zero_le, true_and, Nat.sub_zero, List.getElem?_toArray]
    constructor
    · intro h1
      rw [List.getElem?_take] at h1
      split at h1
      · rename_i hjp
        exact ⟨h1, hjp, by have := (List.getElem?_eq_some_iff.1 h1).1; omega⟩
      · cases h1
    · rintro ⟨h1, h2, _⟩
      rw [List.getElem?_take, if_pos h2]; exact h1
  · intro j hj _
    have hd : p + (l.drop p).length = l.length := by simp; omega
    have hj' : j < l.length := by simpa using hj
    rw [hd]
    simp [hj']
  · intro k ok _ hk
    simp [Array.getD_eq_getD_getElem?, Array.getElem?_replicate] at hk
    split at hk <;> simp at hk

/-! ### Steps of the walk -/
section
variable {Q : Act → World → Prop} {k : Nat} {o : Oper} {rest : List Oper} {a : Act} {F : Nat → World → Prop}
theorem relAt_nil (h : ∀ w, J 0 w → (∀ i, F i w) → Q a w) : relAt P ops J R S Q k [] a F := h
theorem relAt_det (hS : S k = none) (hw : Region.wanted o (yielded ops a.tmps) = true) (h : ∃ u, (∀ w n, J (n + 1) w → (execOp a.eval o).run P w = .ok (.value u) w) ∧ relAt P ops J R S Q (k + 1) rest (a.put o.dst u) F) :
    relAt P ops J R S Q k (o :: rest) a F := by
  obtain ⟨u, hu, h⟩ := h
  unfold relAt One
  rw [if_pos hw, hS]
  exact ⟨u, fun w n hJ => by unfold detAt; rw [hu w n hJ]; exact ⟨rfl, rfl⟩, h⟩
theorem relAt_none (hS : S k = none) (hw : Region.wanted o (yielded ops a.tmps) = true) (hu : ∀ w n, J (n + 1) w → (execOp a.eval o).run P w = .ok .skip w) (h : relAt P ops J R S Q (k + 1) rest (a.put o.dst undef) F) :
    relAt P ops J R S Q k (o :: rest) a F := by
  unfold relAt One
  rw [if_pos hw, hS]
  exact ⟨undef, fun w n hJ => by unfold detAt; rw [hu w n hJ]; exact ⟨rfl, rfl⟩, h⟩
theorem relAt_skip (hw : Region.wanted o (yielded ops a.tmps) = false) (h : relAt P ops J R S Q (k + 1) rest (a.put o.dst undef) F) : relAt P ops J R S Q k (o :: rest) a F := by
  unfold relAt One
  rw [if_neg (by simp [hw])]
  exact h
/-- An operation that makes memory, or needs what others handed back. -/
theorem relAt_value (s : Spec) (hS : S k = some s) (hw : Region.wanted o (yielded ops a.tmps) = true)
    (hu : ∀ w n, J (n + 1) w → (∀ e ∈ o.after, Region.binds .any e = true → F e.on w) → ∃ x w', (execOp a.eval o).run P w = .ok (.value (s.f x)) w' ∧ s.V x w' ∧ J n w' ∧ R w w')
    (h : ∀ x : s.α, relAt P ops J R S Q (k + 1) rest (a.put o.dst (s.f x)) (upd F k (s.V x))) : relAt P ops J R S Q k (o :: rest) a F := by
  unfold relAt One
  rw [if_pos hw, hS]
  refine ⟨fun w n hJ hF => ?_, h⟩
  obtain ⟨x, w', hr, hV, hJ', hR⟩ := hu w n hJ hF
  unfold someAt
  rw [hr]
  exact ⟨⟨x, rfl, hV⟩, hJ', hR⟩
/-- A call. -/
theorem relAt_call (s : Spec) (hS : S k = some s) (hw : Region.wanted o (yielded ops a.tmps) = true)
    (hh : ∃ (f : FuncId) (args : Array Value), (∀ w, (execOp a.eval o).run P w = .ok (.enter f args) w) ∧
      (∀ w n, J (n + 1) w → (∀ e ∈ o.after, Region.binds .any e = true → F e.on w) → Calls P f args w fun e w' => ∃ x, e = .returned (s.f x) ∧ s.V x w' ∧ J n w' ∧ R w w'))
    (h : ∀ x : s.α, relAt P ops J R S Q (k + 1) rest (a.put o.dst (s.f x)) (upd F k (s.V x))) : relAt P ops J R S Q k (o :: rest) a F := by
  obtain ⟨f, args, hr, hu⟩ := hh
  unfold relAt One
  rw [if_pos hw, hS]
  refine ⟨fun w n hJ hF => ?_, h⟩
  unfold someAt
  rw [hr w]
  exact (hu w n hJ hF).mono fun e w' ⟨x, he, hV, hJ', hR⟩ => ⟨s.f x, he, ⟨x, rfl, hV⟩, hJ', hR⟩
end
end
end Go.Proofs.Ytedabpldigcffaa
