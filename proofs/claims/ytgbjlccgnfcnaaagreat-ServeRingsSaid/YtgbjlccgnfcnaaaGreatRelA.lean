/- Regions that draw their order: the parts that all rules share. -/
import Derived.Test.YtgbjlccgnfcnaaaGreatBase
import Derived.Deep.Quiet
namespace Go.Proofs.YtgbjlccgnfcnaaaGreat
open Go.RowKit
/-- What an operation may hand back: f x for some x, with a fact on x and the world. -/
structure Spec where
  α : Type
  d : α
  f : α → Value
  V : α → World → Prop

section
variable {P : Program} {ops : Array Oper} {J : Nat → World → Prop} {R : World → World → Prop} {S : Nat → Option Spec}

def someUpon (P : Program) (J' : World → Prop) (V : Value → World → Prop) : Result Next → Prop
  | .ok (.value u) w' => V u w' ∧ J' w'
  | .ok .skip w' => V undef w' ∧ J' w'
  | .ok (.enter f args) w' => Calls P f args w' fun e w'' => ∃ v, e = .returned v ∧ V v w'' ∧ J' w''
  | _ => False
/-- The operation hands back a value with V, and leaves a world of J'. -/
def someAt (P : Program) (o : Oper) (a : Act) (J' : World → Prop) (V : Value → World → Prop) (w : World) : Prop := someUpon P J' V ((execOp a.eval o).run P w)
def detUpon (u : Value) (w : World) : Result Next → Prop
  | .ok (.value v) w' => w' = w ∧ v = u
  | .ok .skip w' => w' = w ∧ undef = u
  | _ => False
/-- The operation hands back u, and leaves the world as it is. -/
def detAt (P : Program) (o : Oper) (a : Act) (u : Value) (w : World) : Prop := detUpon u w ((execOp a.eval o).run P w)

theorem detAt_unique {o : Oper} {a : Act} {u v : Value} {w : World} (h : detAt P o a u w) (k : detAt P o a v w) : u = v := by
  unfold detAt at h k
  generalize (execOp a.eval o).run P w = r at *
  cases r with
  | ok n w' =>
    cases n <;> simp only [detUpon] at h k
    case value x => exact h.2.symm.trans k.2
    case skip => exact h.2.symm.trans k.2
  | halt x w' => exact h.elim

/-- The facts on what was handed back, with one more. -/
def upd (F : Nat → World → Prop) (i : Nat) (A : World → Prop) : Nat → World → Prop := fun j w => if j = i then A w else F j w

theorem upd_comm {F : Nat → World → Prop} {i j : Nat} {A B : World → Prop} (h : i ≠ j) : upd (upd F i A) j B = upd (upd F j B) i A := by
  funext k w
  unfold upd
  by_cases h1 : k = i
  · subst h1; simp [h]
  · by_cases h2 : k = j
    · subst h2; simp [Ne.symm h]
    · simp [h1, h2]

/-- Is x's slot put by y's walk apart? Both ways. -/
theorem someAt_put {o : Oper} (hs : ∀ cs b, o.op ≠ .select cs b) {a : Act} {dst : Option Tmp} {v : Value} (h : ∀ d, dst = some d → d ∉ o.looksAt ops) {J' : World → Prop} {V : Value → World → Prop} {w : World} :
    someAt P o (a.put dst v) J' V w ↔ someAt P o a J' V w := by
  unfold someAt; rw [execOp_put (ops := ops) o hs a dst v h]
theorem detAt_put {o : Oper} (hs : ∀ cs b, o.op ≠ .select cs b) {a : Act} {dst : Option Tmp} {v : Value} (h : ∀ d, dst = some d → d ∉ o.looksAt ops) {u : Value} {w : World} :
    detAt P o (a.put dst v) u w ↔ detAt P o a u w := by
  unfold detAt; rw [execOp_put (ops := ops) o hs a dst v h]

theorem wp_of_someAt {o : Oper} {a : Act} {J' : World → Prop} {V : Value → World → Prop} {w : World} {K : Act → World → Prop} {Q : Exit → Act → World → Prop} (h : someAt P o a J' V w)
    (hK : ∀ v w', V v w' → J' w' → K (a.put o.dst v) w') : o.wp P a w K Q := by
  unfold someAt at h
  unfold Oper.wp
  generalize (execOp a.eval o).run P w = r at *
  cases r with
  | ok n w' =>
    cases n <;> simp only [someUpon] at h <;> simp only [Oper.upon]
    case value u => exact hK _ _ h.1 h.2
    case skip => exact hK _ _ h.1 h.2
    case enter f args => exact h.mono fun e w'' ⟨v, he, hv, hj⟩ => by subst he; exact hK _ _ hv hj
  | halt x w' => exact h.elim
theorem wp_of_detAt {o : Oper} {a : Act} {u : Value} {w : World} {K : Act → World → Prop} {Q : Exit → Act → World → Prop} (h : detAt P o a u w) (hK : K (a.put o.dst u) w) : o.wp P a w K Q := by
  unfold detAt at h
  unfold Oper.wp
  generalize (execOp a.eval o).run P w = r at *
  cases r with
  | ok n w' =>
    cases n <;> simp only [detUpon] at h <;> simp only [Oper.upon]
    case value v => obtain ⟨rfl, rfl⟩ := h; exact hK
    case skip => obtain ⟨rfl, rfl⟩ := h; exact hK
  | halt x w' => exact h.elim

/-- What is asked of the region's text: the first p operations may come up in some order, those behind them come up in the order of the text when all others have. -/
def relB (ops : Array Oper) (p : Nat) : Bool :=
  Region.noSelect ops && decide (p ≤ ops.size) && (List.range ops.size).all fun i => match ops[i]? with
    | none => false
    | some oi => (oi.after.all fun e => !Region.binds .any e || decide (e.on < i)) &&
        if i < p then (List.range i).all fun j => (oi.after.any fun e => Region.binds .any e && e.on == j) || match ops[j]? with | some oj => oj.apart ops oi | none => false
        else (List.range i).all fun j => (List.range i).any fun d => match ops[i - d]? with | some ok => decide (j < i - d) && ok.after.any fun e => Region.binds .any e && e.on == j | none => false

theorem relB_spec {p : Nat} (h : relB ops p = true) {i : Nat} {oi : Oper} (hi : ops[i]? = some oi) :
    (∀ e ∈ oi.after, Region.binds .any e = true → e.on < i) ∧
    (i < p → ∀ j oj, j < i → ops[j]? = some oj → (∀ e ∈ oi.after, Region.binds .any e = true → e.on ≠ j) → oj.apart ops oi = true) ∧
    (p ≤ i → ∀ j, j < i → ∃ k ok, j < k ∧ k ≤ i ∧ ops[k]? = some ok ∧ ∃ e ∈ ok.after, Region.binds .any e = true ∧ e.on = j) := by
  simp only [relB, Bool.and_eq_true, List.all_eq_true, List.mem_range] at h
  have hlt : i < ops.size := (Array.getElem?_eq_some_iff.1 hi).1
  have h1 := h.2 i hlt
  simp only [hi, Bool.and_eq_true, Array.all_eq_true_iff_forall_mem, Bool.or_eq_true, Bool.not_eq_true', decide_eq_true_eq] at h1
  refine ⟨fun e he hb => (h1.1 e he).resolve_left (by simp [hb]), fun hip j oj hj hoj hno => ?_, fun hip j hj => ?_⟩
  · have h2 := h1.2
    rw [if_pos hip] at h2
    simp only [List.all_eq_true, List.mem_range, Bool.or_eq_true] at h2
    rcases h2 j hj with h2 | h2
    · obtain ⟨e, he, hb⟩ := Array.any_eq_true'.1 h2
      simp only [Bool.and_eq_true, beq_iff_eq] at hb
      exact absurd hb.2 (hno e he hb.1)
    · simpa [hoj] using h2
  · have h2 := h1.2
    rw [if_neg (by omega)] at h2
    simp only [List.all_eq_true, List.mem_range, List.any_eq_true] at h2
    obtain ⟨d, hd, h3⟩ := h2 j hj
    cases hk : ops[i - d]? with
    | none => simp [hk] at h3
    | some ok =>
      simp only [hk, Bool.and_eq_true, decide_eq_true_eq] at h3
      obtain ⟨e, he, hb⟩ := Array.any_eq_true'.1 h3.2
      simp only [Bool.and_eq_true, beq_iff_eq] at hb
      exact ⟨i - d, ok, h3.1, by omega, hk, e, he, hb⟩

/-- Of the operations that have come up, all forerunners have. -/
def Shut (ops : Array Oper) (listed : Array Bool) : Prop := ∀ k ok, ops[k]? = some ok → listed.getD k false = true → ∀ e ∈ ok.after, Region.binds .any e = true → listed.getD e.on false = true
theorem Shut.set {listed : Array Bool} (h : Shut ops listed) {i : Nat} {oi : Oper} (hi : ops[i]? = some oi) (hall : ∀ e ∈ oi.after, Region.binds .any e = true → listed.getD e.on false = true) : Shut ops (listed.setIfInBounds i true) := by
  intro k ok hk hl e he hb
  by_cases hki : k = i
  · subst hki
    rw [hi] at hk
    cases hk
    exact getD_set_true (hall e he hb)
  · rw [getD_set_ne false (Ne.symm hki)] at hl
    exact getD_set_true (h k ok hk hl e he hb)
/-- An operation of the tail comes up behind all that stand ahead of it. -/
theorem all_listed {p : Nat} (hB : relB ops p = true) {listed : Array Bool} (hsh : Shut ops listed) {i : Nat} {oi : Oper} (hi : ops[i]? = some oi) (hip : p ≤ i)
    (hall : ∀ e ∈ oi.after, Region.binds .any e = true → listed.getD e.on false = true) : ∀ d j, i - j ≤ d → j < i → listed.getD j false = true := by
  intro d
  induction d with
  | zero => intro j h1 h2; omega
  | succ d ih =>
    intro j h1 h2
    obtain ⟨k, ok, hjk, hki, hok, e, he, hb, heq⟩ := (relB_spec hB hi).2.2 hip j h2
    rcases Nat.lt_or_ge k i with hlt | hge
    · have := hsh k ok hok (ih k (by omega) hlt) e he hb
      rw [heq] at this; exact this
    · have hke : k = i := by omega
      subst hke
      rw [hi] at hok
      cases hok
      have := hall e he hb
      rw [heq] at this; exact this

theorem relB_sel {p : Nat} (hB : relB ops p = true) (j : Nat) (o : Oper) (cs : Array SelectCase) (b : Bool) (ho : ops[j]? = some o) : o.op ≠ .select cs b := by
  simp only [relB, Bool.and_eq_true] at hB
  exact Region.noSelect_spec hB.1.1 j o cs b ho
theorem relB_le {p : Nat} (hB : relB ops p = true) : p ≤ ops.size := by
  simp only [relB, Bool.and_eq_true, decide_eq_true_eq] at hB
  exact hB.1.2

/-- An operation whose forerunners have all come up. -/
theorem getD_true_of {listed : Array Bool} {j : Nat} (hj : j < listed.size) (h : ¬ listed.getD j true = false) : listed.getD j false = true := by
  simp [Array.getElem?_eq_getElem hj] at h ⊢
  exact h
theorem getD_false_of {listed : Array Bool} {j : Nat} (hj : j < listed.size) (h : listed.getD j false = true) : ¬ listed.getD j true = false := by
  simp [Array.getElem?_eq_getElem hj] at h ⊢
  exact h

/-- The operations behind the first p, in the order of the text. -/
theorem wpAny_tail {p : Nat} {Q' : Exit → Act → World → Prop} (hB : relB ops p = true) :
    ∀ (l : List Oper) (k : Nat) (listed : Array Bool) (a : Act) (w : World), p ≤ k → listed.size = ops.size → k + l.length = ops.size → (∀ j, l[j]? = ops[k + j]?) →
      (∀ j, j < ops.size → (listed.getD j true = false ↔ k ≤ j)) → Shut ops listed → wpList P ops Q' l a w → wpAny P .any ops Q' l.length listed a w
  | [], k, listed, a, w, hp, hsz, hlen, hl, hun, hsh, h => by
    refine ⟨?_, h⟩
    apply List.eq_nil_iff_forall_not_mem.2
    intro i hi
    obtain ⟨h0, o, ho, _⟩ := mem_ready.1 hi
    have hio : i < ops.size := (Array.getElem?_eq_some_iff.1 ho).1
    have := (hun i hio).1 h0
    simp at hlen
    omega
  | o :: l, k, listed, a, w, hp, hsz, hlen, hl, hun, hsh, h => by
    have hk : ops[k]? = some o := by simpa using (hl 0).symm
    have hko : k < ops.size := (Array.getElem?_eq_some_iff.1 hk).1
    have hready : k ∈ Region.ready .any ops listed := by
      refine mem_ready.2 ⟨(hun k hko).2 (Nat.le_refl _), o, hk, fun e he hb => ?_⟩
      have hlt := (relB_spec hB hk).1 e he hb
      exact getD_true_of (by omega) (fun hg => by have := (hun e.on (by omega)).1 hg; omega)
    refine ⟨fun hr => (by rw [hr] at hready; cases hready), fun i hi => ?_⟩
    obtain ⟨h0, oi, hoi, hall⟩ := mem_ready.1 hi
    have hio : i < ops.size := (Array.getElem?_eq_some_iff.1 hoi).1
    have hki : k ≤ i := (hun i hio).1 h0
    have hik : i = k := by
      rcases Nat.lt_or_ge k i with hlt | hge
      · exfalso
        exact getD_false_of (by omega) (all_listed hB hsh hoi (by omega) hall _ k (Nat.le_refl _) hlt) ((hun k hko).2 (Nat.le_refl _))
      · omega
    subst hik
    have hrec : ∀ a' w', wpList P ops Q' l a' w' → wpAny P .any ops Q' l.length (listed.setIfInBounds i true) a' w' := fun a' w' h' =>
      wpAny_tail hB l (i + 1) _ a' w' (by omega) (by simpa using hsz) (by simp at hlen; omega) (fun j => by have := hl (j + 1); simpa [Nat.add_assoc, Nat.add_comm 1 j] using this) (fun j hj => by
        by_cases hji : j = i
        · subst hji; simp [show j < listed.size by omega]
        · rw [getD_set_ne true (Ne.symm hji), hun j hj]; omega) (hsh.set hoi hall) h'
    unfold wpOp
    rw [hoi]
    have hoe : oi = o := by rw [hk] at hoi; exact (Option.some.inj hoi).symm
    subst hoe
    unfold wpList at h
    show if Region.wanted oi (yielded ops a.tmps) = true then _ else _
    split
    · rename_i hw; rw [if_pos hw] at h; exact h.imp (Oper.wp_mono hrec) id
    · rename_i hw; rw [if_neg hw] at h; exact hrec _ _ h

/-- A list with its places. -/
def places : Nat → List Oper → List (Nat × Oper)
  | _, [] => []
  | k, o :: l => (k, o) :: places (k + 1) l
theorem places_length : ∀ (l : List Oper) (k : Nat), (places k l).length = l.length
  | [], _ => rfl
  | _ :: l, k => by simp [places, places_length l]
theorem mem_places : ∀ (l : List Oper) (k j : Nat) (o : Oper), (j, o) ∈ places k l ↔ k ≤ j ∧ l[j - k]? = some o
  | [], _, _, _ => by simp [places]
  | x :: l, k, j, o => by
    simp only [places, List.mem_cons, Prod.mk.injEq, mem_places l (k + 1) j o]
    rcases Nat.lt_trichotomy j k with h | h | h
    · constructor
      · rintro (⟨h1, _⟩ | ⟨h1, _⟩) <;> omega
      · rintro ⟨h1, _⟩; omega
    · subst h
      simp only [Nat.sub_self, List.getElem?_cons_zero, true_and, Nat.le_refl, Option.some.injEq]
      constructor
      · rintro (h1 | ⟨h1, _⟩)
        · exact h1.symm
        · omega
      · exact fun h1 => .inl h1.symm
    · obtain ⟨d, rfl⟩ : ∃ d, j = k + 1 + d := ⟨j - k - 1, by omega⟩
      have e1 : k + 1 + d - k = d + 1 := by omega
      have e2 : k + 1 + d - (k + 1) = d := by omega
      rw [e1, e2, List.getElem?_cons_succ]
      constructor
      · rintro (⟨h1, _⟩ | ⟨_, h2⟩)
        · omega
        · exact ⟨by omega, h2⟩
      · rintro ⟨_, h2⟩
        exact .inr ⟨by omega, h2⟩
theorem places_sorted : ∀ (l : List Oper) (k : Nat), ((places k l).map (·.1)).Pairwise (· < ·)
  | [], _ => by simp [places]
  | x :: l, k => by
    simp only [places, List.map_cons, List.pairwise_cons]
    refine ⟨fun j hj => ?_, places_sorted l (k + 1)⟩
    obtain ⟨⟨i, o⟩, hm, rfl⟩ := List.mem_map.1 hj
    have := (mem_places l (k + 1) i o).1 hm
    simp
    omega

end
/-- Operation i may come up now: r says which are still to come. -/
structure Good (ops : Array Oper) (i : Nat) (r : Nat → Bool) : Prop where
  mine : r i = true
  ready : ∀ oi, ops[i]? = some oi → ∀ e ∈ oi.after, Region.binds .any e = true → r e.on = false
  shut : ∀ j oj, ops[j]? = some oj → r j = false → ∀ e ∈ oj.after, Region.binds .any e = true → r e.on = false
/-- i has come up. -/
def off (r : Nat → Bool) (i : Nat) : Nat → Bool := fun j => r j && !(j == i)
/-- What waits for i is still to come. -/
theorem Good.later {ops : Array Oper} {i : Nat} {r : Nat → Bool} (h : Good ops i r) (j : Nat) (hj : (ops[j]?.map fun oj => oj.after.any fun e => Region.binds .any e && e.on == i) = some true) : r j = true := by
  cases ho : ops[j]? with
  | none => rw [ho] at hj; cases hj
  | some oj =>
    rw [ho] at hj
    simp only [Option.map_some, Option.some.injEq] at hj
    obtain ⟨e, he, hb⟩ := Array.any_eq_true'.1 hj
    simp only [Bool.and_eq_true, beq_iff_eq] at hb
    cases hr : r j with
    | true => rfl
    | false =>
      have := h.shut j oj ho hr e he hb.1
      rw [hb.2, h.mine] at this
      cases this
theorem getD_false_iff {a : Array Bool} {i : Nat} (hi : i < a.size) (h : a.getD i false = true) : a.getD i true = true := by
  simp [Array.getD_eq_getD_getElem?, hi] at h ⊢; exact h
theorem getD_true_flip {a : Array Bool} {i : Nat} (hi : i < a.size) (h : a.getD i true = true) : a.getD i false = true := by
  simp [Array.getD_eq_getD_getElem?, hi] at h ⊢; exact h
def rem (listed : Array Bool) : Nat → Bool := fun j => !(listed.getD j true)
end Go.Proofs.YtgbjlccgnfcnaaaGreat
