/- What the specification says of one instruction. -/
import Derived.Test.YtedabpldigcffaaRefF
namespace Go.Proofs.Ytedabpldigcffaa
open Go.RowKit
set_option linter.unusedSimpArgs false
set_option linter.unusedVariables false

def names : List Int := [68, 65, 66, 67, 78, 77]
def Ins.get (x : Ins) (c : Int) : Int := if c = 68 then x.d else if c = 65 then x.a else if c = 66 then x.b else if c = 67 then x.c else if c = 78 then x.n else x.m
theorem get_any (b : Nat) (c : Int) (w : World) (hc : c ∈ names) : Calls Try.prog 97 #[.pointer (some ⟨b, 0, none⟩), .int .u8 c] w fun e w' => e = .returned (.pointer (some ⟨b, fieldIx c, none⟩)) ∧ Ext [] w w' := by
  simp only [names, List.mem_cons, List.not_mem_nil, or_false] at hc
  rcases hc with rfl | rfl | rfl | rfl | rfl | rfl
  · exact get_68 b w
  · exact get_65 b w
  · exact get_66 b w
  · exact get_67 b w
  · exact get_78 b w
  · exact get_77 b w
theorem get_cell (x : Ins) (c : Int) (hc : c ∈ names) : x.cells.toArray[fieldIx c]? = some (.int .i64 (x.get c)) := by
  simp only [names, List.mem_cons, List.not_mem_nil, or_false] at hc
  rcases hc with rfl | rfl | rfl | rfl | rfl | rfl <;> rfl
theorem opFields_names (k : Int) (g : Int → Fld) (hg : ∀ c, (g c).name = c) : ∀ f ∈ opFields k g, f.name ∈ names := by
  intro f hf
  unfold opFields at hf
  repeat' split at hf
  all_goals
    simp only [List.mem_cons, List.not_mem_nil, or_false] at hf
    rcases hf with rfl | rfl | rfl | rfl <;> simp [hg, names, fldN]
theorem fieldsS_names (m : Mc) (x : Ins) : ∀ f ∈ fieldsS m x, f.name ∈ names := by
  intro f hf
  unfold fieldsS at hf
  by_cases h1 : x.op = 1
  · rw [if_pos h1] at hf
    simp only [List.mem_cons, List.not_mem_nil, or_false] at hf
    rcases hf with rfl | rfl <;> simp [names, fldR, fldV]
  rw [if_neg h1] at hf
  by_cases h2 : x.op = 2
  · rw [if_pos h2] at hf
    exact opFields_names _ _ (fun _ => rfl) f hf
  rw [if_neg h2] at hf
  by_cases h3 : x.op = 3
  · rw [if_pos h3] at hf
    simp only [List.mem_cons, List.not_mem_nil, or_false] at hf
    rcases hf with rfl | rfl | rfl | rfl <;> simp [names, fldR, fldV]
  rw [if_neg h3] at hf
  by_cases h5 : x.op = 5
  · rw [if_pos h5] at hf
    simp only [List.mem_cons, List.not_mem_nil, or_false] at hf
    rcases hf with rfl | rfl | rfl <;> simp [names, fldR, fldV]
  rw [if_neg h5] at hf
  by_cases h6 : x.op = 6
  · rw [if_pos h6] at hf
    simp only [List.mem_cons, List.not_mem_nil, or_false] at hf
    rcases hf with rfl | rfl | rfl <;> simp [names, fldR, fldV]
  rw [if_neg h6] at hf
  by_cases h7 : x.op = 7
  · rw [if_pos h7] at hf
    simp only [List.mem_cons, List.not_mem_nil, or_false] at hf
    rcases hf with rfl | rfl | rfl | rfl <;> simp [names, fldR, fldV]
  rw [if_neg h7] at hf
  by_cases h8 : x.op = 8
  · rw [if_pos h8] at hf
    simp only [List.mem_cons, List.not_mem_nil, or_false] at hf
    rcases hf with rfl | rfl | rfl | rfl <;> simp [names, fldR, fldV]
  rw [if_neg h8] at hf
  by_cases h9 : x.op = 9
  · rw [if_pos h9] at hf
    simp only [List.mem_cons, List.not_mem_nil, or_false] at hf
    rcases hf with rfl | rfl | rfl | rfl <;> simp [names, fldR, fldV]
  rw [if_neg h9] at hf
  by_cases h10 : x.op = 10
  · rw [if_pos h10] at hf
    simp only [List.mem_cons, List.not_mem_nil, or_false] at hf
    rcases hf with rfl | rfl | rfl | rfl <;> simp [names, fldR, fldV]
  rw [if_neg h10] at hf
  by_cases h11 : x.op = 11
  · rw [if_pos h11] at hf
    exact opFields_names _ _ (fun _ => rfl) f hf
  rw [if_neg h11] at hf
  by_cases h12 : x.op = 12
  · rw [if_pos h12] at hf
    simp only [List.mem_cons, List.not_mem_nil, or_false] at hf
    rcases hf with rfl | rfl <;> simp [names, fldR, fldV]
  rw [if_neg h12] at hf
  by_cases h13 : x.op = 13
  · rw [if_pos h13] at hf
    simp only [List.mem_cons, List.not_mem_nil, or_false] at hf
    rcases hf with rfl | rfl | rfl <;> simp [names, fldR, fldV]
  rw [if_neg h13] at hf
  by_cases h14 : x.op = 14
  · rw [if_pos h14] at hf
    simp only [List.mem_cons, List.not_mem_nil, or_false] at hf
    rcases hf with rfl | rfl | rfl | rfl <;> simp [names, fldR, fldV]
  rw [if_neg h14] at hf
  by_cases h15 : x.op = 15
  · rw [if_pos h15] at hf
    simp only [List.mem_cons, List.not_mem_nil, or_false] at hf
    subst hf
    simp [names, fldR, fldV]
  rw [if_neg h15] at hf
  by_cases h17 : x.op = 17
  · rw [if_pos h17] at hf
    simp only [List.mem_cons, List.not_mem_nil, or_false] at hf
    subst hf
    simp [names, fldR, fldV]
  rw [if_neg h17] at hf
  by_cases h18 : x.op = 18
  · rw [if_pos h18] at hf
    simp only [List.mem_cons, List.not_mem_nil, or_false] at hf
    rcases hf with rfl | rfl | rfl | rfl | rfl | rfl <;> simp [names, fldR, fldV]
  rw [if_neg h18] at hf
  by_cases h19 : x.op = 19
  · rw [if_pos h19] at hf
    simp only [List.mem_cons, List.not_mem_nil, or_false] at hf
    subst hf
    simp [names, fldR, fldV]
  rw [if_neg h19] at hf
  cases hf
theorem opFields_length (k : Int) (g : Int → Fld) : (opFields k g).length ≤ 4 := by
  unfold opFields
  repeat' split
  all_goals simp
theorem fieldsS_length (m : Mc) (x : Ins) : (fieldsS m x).length ≤ 6 := by
  unfold fieldsS
  by_cases h1 : x.op = 1
  · rw [if_pos h1]
    simp
  rw [if_neg h1]
  by_cases h2 : x.op = 2
  · rw [if_pos h2]
    exact Nat.le_trans (opFields_length _ _) (by omega)
  rw [if_neg h2]
  by_cases h3 : x.op = 3
  · rw [if_pos h3]
    simp
  rw [if_neg h3]
  by_cases h5 : x.op = 5
  · rw [if_pos h5]
    simp
  rw [if_neg h5]
  by_cases h6 : x.op = 6
  · rw [if_pos h6]
    simp
  rw [if_neg h6]
  by_cases h7 : x.op = 7
  · rw [if_pos h7]
    simp
  rw [if_neg h7]
  by_cases h8 : x.op = 8
  · rw [if_pos h8]
    simp
  rw [if_neg h8]
  by_cases h9 : x.op = 9
  · rw [if_pos h9]
    simp
  rw [if_neg h9]
  by_cases h10 : x.op = 10
  · rw [if_pos h10]
    simp
  rw [if_neg h10]
  by_cases h11 : x.op = 11
  · rw [if_pos h11]
    exact Nat.le_trans (opFields_length _ _) (by omega)
  rw [if_neg h11]
  by_cases h12 : x.op = 12
  · rw [if_pos h12]
    simp
  rw [if_neg h12]
  by_cases h13 : x.op = 13
  · rw [if_pos h13]
    simp
  rw [if_neg h13]
  by_cases h14 : x.op = 14
  · rw [if_pos h14]
    simp
  rw [if_neg h14]
  by_cases h15 : x.op = 15
  · rw [if_pos h15]
    simp
  rw [if_neg h15]
  by_cases h17 : x.op = 17
  · rw [if_pos h17]
    simp
  rw [if_neg h17]
  by_cases h18 : x.op = 18
  · rw [if_pos h18]
    simp
  rw [if_neg h18]
  by_cases h19 : x.op = 19
  · rw [if_pos h19]
    simp
  rw [if_neg h19]
  simp
/-- A name is in a field, or its value is zero. -/
def nameOk (fs : List Fld) (x : Ins) (c : Int) : Bool := hasF fs c || x.get c == 0
def countedB (o : Int) : Bool := o == 2 || o == 11
def kpBad (x : Ins) : Bool := (!countedB x.op && x.op != 18 && x.k != 0) || (!condB x.op && x.p != 0)
def lastBad (x : Ins) : Bool := (countedB x.op && (!inR x.k 4 15 || (x.k == 12 && decide (x.m < x.n)))) || (x.op == 18 && !inR x.k 1 2) || !inR x.p 0 16
/-- What the specification says of one instruction. -/
def instrF (m : Mc) (x : Ins) : Int :=
  if inR x.op 1 19 = false then 4
  else if names.all (nameOk (fieldsS m x) x) = false then 3
  else if kpBad x then 3
  else if (fieldsS m x).all (fun f => inR (x.get f.name) f.low f.high) = false then 9
  else if lastBad x then 9
  else 0

end Go.Proofs.Ytedabpldigcffaa
