/- The specification's fields of an instruction, all kinds; conditional. -/
import Derived.Test.YtedabpldigcffaaRefB
import Derived.Test.YtedabpldigcffaaRefC
import Derived.Test.YtedabpldigcffaaRefD
import Derived.Test.YtedabpldigcffaaRefE
import Derived.Test.YtedabpldigcffaaSlices
namespace Go.Proofs.Ytedabpldigcffaa
open Go.RowKit
set_option linter.unusedSimpArgs false
set_option linter.unusedVariables false

def condB (o : Int) : Bool := decide (o ∈ ([1, 2, 5, 6, 7, 8] : List Int))
theorem conditional_any (o : Int) (w : World) : Calls Try.prog 98 #[.int .i64 o] w fun e w' => e = .returned (.bool (condB o)) ∧ Ext [] w w' := by
  go_enter Try.func98, Try.ntmps98
  go_wp2_with fail
  refine (contains_int _ 6 [1, 2, 5, 6, 7, 8] o _ (RdI.new w 3 [1, 2, 5, 6, 7, 8]) (by decide)).mono ?_
  rintro e w' ⟨he, rfl⟩
  have he2 : e = .returned (.bool (condB o)) := he
  clear he
  subst he2
  go_wp2_with fail
  go_ret
  exact ⟨rfl, (Ext.refl _ _).alloc _⟩

theorem opFields_R (k : Int) (w : World) : Calls Try.prog 115 #[.int .i64 k, .func (.func 113) #[] #[]] w (FieldsPost (opFields k fldR) w) := by
  by_cases h15 : k = 15
  · subst h15; exact opFields_15_R w
  by_cases hb : inR k 4 10 = true
  · rw [show opFields k fldR = [fldR 68, fldR 65, fldR 66] by simp [opFields, h15, hb]]; exact opFields_bin_R k hb w
  by_cases h12 : k = 12
  · subst h12; exact opFields_12_R w
  by_cases h13 : k = 13
  · subst h13; exact opFields_13_R w
  by_cases h14 : k = 14
  · subst h14; exact opFields_14_R w
  rw [show opFields k fldR = [fldR 68, fldR 65] by simp [opFields, h15, hb, h12, h13, h14]]
  by_cases h11 : k = 11
  · subst h11; exact opFields_11_R w
  · exact opFields_else_R k (by
      rw [Bool.eq_false_iff, ne_eq, inR_iff]
      rw [inR_iff] at hb
      omega) w
theorem opFields_V (k : Int) (w : World) : Calls Try.prog 115 #[.int .i64 k, .func (.func 114) #[] #[]] w (FieldsPost (opFields k fldV) w) := by
  by_cases h15 : k = 15
  · subst h15; exact opFields_15_V w
  by_cases hb : inR k 4 10 = true
  · rw [show opFields k fldV = [fldV 68, fldV 65, fldV 66] by simp [opFields, h15, hb]]; exact opFields_bin_V k hb w
  by_cases h12 : k = 12
  · subst h12; exact opFields_12_V w
  by_cases h13 : k = 13
  · subst h13; exact opFields_13_V w
  by_cases h14 : k = 14
  · subst h14; exact opFields_14_V w
  rw [show opFields k fldV = [fldV 68, fldV 65] by simp [opFields, h15, hb, h12, h13, h14]]
  by_cases h11 : k = 11
  · subst h11; exact opFields_11_V w
  · exact opFields_else_V k (by
      rw [Bool.eq_false_iff, ne_eq, inR_iff]
      rw [inR_iff] at hb
      omega) w

set_option maxHeartbeats 4000000 in
set_option maxRecDepth 100000 in
theorem fieldsOf_2 (m0 m1 m2 m3 m4 k d a b c p n m : Int) (w : World) (hb : Small m1) (hq : Small m4) (_hl : Small m3) :
    Calls Try.prog 93 #[.agg #[.int .i64 m0, .int .i64 m1, .int .i64 m2, .int .i64 m3, .int .i64 m4], .agg (Ins.cells ⟨2, k, d, a, b, c, p, n, m⟩).toArray] w (FieldsPost (opFields k fldR) w) := by
  obtain ⟨hb0, hb1⟩ := hb
  obtain ⟨hq0, hq1⟩ := hq
  simp only [Ins.cells]
  go_enter Try.func93, Try.ntmps93
  go_wp2_with fail
  refine (opFields_R k _).mono ?_
  rintro e w1 ⟨A, cap, rfl, hR, hE⟩
  have HR := hd hR
  have HE := hd hE
  clear hR hE
  go_wp2_with fail
  go_ret
  exact ⟨_, _, rfl, HR.out, fiveExt.trans HE.out⟩
set_option maxHeartbeats 4000000 in
set_option maxRecDepth 100000 in
theorem fieldsOf_11 (m0 m1 m2 m3 m4 k d a b c p n m : Int) (w : World) (hb : Small m1) (hq : Small m4) (_hl : Small m3) :
    Calls Try.prog 93 #[.agg #[.int .i64 m0, .int .i64 m1, .int .i64 m2, .int .i64 m3, .int .i64 m4], .agg (Ins.cells ⟨11, k, d, a, b, c, p, n, m⟩).toArray] w (FieldsPost (opFields k fldV) w) := by
  obtain ⟨hb0, hb1⟩ := hb
  obtain ⟨hq0, hq1⟩ := hq
  simp only [Ins.cells]
  go_enter Try.func93, Try.ntmps93
  go_wp2_with fail
  refine (opFields_V k _).mono ?_
  rintro e w1 ⟨A, cap, rfl, hR, hE⟩
  have HR := hd hR
  have HE := hd hE
  clear hR hE
  go_wp2_with fail
  go_ret
  exact ⟨_, _, rfl, HR.out, fiveExt.trans HE.out⟩

/-- The fields that an instruction uses. -/
def fieldsS (m : Mc) (x : Ins) : List Fld :=
  if x.op = 1 then [fldR 68, ⟨78, ⟨#[]⟩, -2147483648, 2147483647⟩]
  else if x.op = 2 then opFields x.k fldR
  else if x.op = 3 then [fldR 68, ⟨67, ⟨#[]⟩, -1000, 1000⟩, ⟨78, ⟨#[]⟩, -2147483648, 2147483647⟩, ⟨77, ⟨#[]⟩, 0, 1000000⟩]
  else if x.op = 5 then [fldR 68, fldR 65, ⟨78, ⟨#[]⟩, -2147483648, 2147483647⟩]
  else if x.op = 6 then [fldR 65, fldR 66, ⟨78, ⟨#[]⟩, -2147483648, 2147483647⟩]
  else if x.op = 7 then [fldR 68, fldR 65, ⟨67, ⟨#[98]⟩, 0, m.banks - 1⟩, ⟨78, ⟨#[]⟩, -2147483648, 2147483647⟩]
  else if x.op = 8 then [fldR 65, fldR 66, ⟨67, ⟨#[98]⟩, 0, m.banks - 1⟩, ⟨78, ⟨#[]⟩, -2147483648, 2147483647⟩]
  else if x.op = 9 then [fldV 68, fldR 65, ⟨67, ⟨#[98]⟩, 0, m.banks - 1⟩, ⟨78, ⟨#[]⟩, -2147483648, 2147483647⟩]
  else if x.op = 10 then [fldR 65, fldV 66, ⟨67, ⟨#[98]⟩, 0, m.banks - 1⟩, ⟨78, ⟨#[]⟩, -2147483648, 2147483647⟩]
  else if x.op = 11 then opFields x.k fldV
  else if x.op = 12 then [fldV 68, fldR 65]
  else if x.op = 13 then [fldR 68, fldV 65, ⟨78, ⟨#[]⟩, 0, m.lanes - 1⟩]
  else if x.op = 14 then [fldR 65, ⟨67, ⟨#[98]⟩, 0, m.banks - 1⟩, ⟨78, ⟨#[]⟩, -2147483648, 2147483647⟩, ⟨77, ⟨#[]⟩, 0, m.bank⟩]
  else if x.op = 15 then [fldV 65]
  else if x.op = 17 then [fldV 68]
  else if x.op = 18 then [⟨68, ⟨#[113]⟩, 0, m.queues - 1⟩, fldR 65, fldR 66, ⟨67, ⟨#[98]⟩, 0, m.banks - 1⟩, ⟨78, ⟨#[]⟩, -2147483648, 2147483647⟩, ⟨77, ⟨#[]⟩, 1, m.bank⟩]
  else if x.op = 19 then [⟨68, ⟨#[113]⟩, 0, m.queues - 1⟩]
  else []
theorem fieldsOf_any (m : Mc) (x : Ins) (w : World) (ho : inR x.op 1 19 = true) (hb : Small m.banks) (hq : Small m.queues) (hl : Small m.lanes) :
    Calls Try.prog 93 #[.agg m.cells.toArray, .agg x.cells.toArray] w (FieldsPost (fieldsS m x) w) := by
  obtain ⟨m0, m1, m2, m3, m4⟩ := m
  obtain ⟨o, k, d, a, b, c, p, n, mm⟩ := x
  rw [inR_iff] at ho
  simp only at ho hb hq hl
  have hc : o = 1 ∨ o = 2 ∨ o = 3 ∨ o = 4 ∨ o = 5 ∨ o = 6 ∨ o = 7 ∨ o = 8 ∨ o = 9 ∨ o = 10 ∨ o = 11 ∨ o = 12 ∨ o = 13 ∨ o = 14 ∨ o = 15 ∨ o = 16 ∨ o = 17 ∨ o = 18 ∨ o = 19 := by omega
  clear ho
  rcases hc with rfl | rfl | rfl | rfl | rfl | rfl | rfl | rfl | rfl | rfl | rfl | rfl | rfl | rfl | rfl | rfl | rfl | rfl | rfl
  · exact fieldsOf_1 m0 m1 m2 m3 m4 k d a b c p n mm w hb hq hl
  · exact fieldsOf_2 m0 m1 m2 m3 m4 k d a b c p n mm w hb hq hl
  · exact fieldsOf_3 m0 m1 m2 m3 m4 k d a b c p n mm w hb hq hl
  · exact fieldsOf_4 m0 m1 m2 m3 m4 k d a b c p n mm w hb hq hl
  · exact fieldsOf_5 m0 m1 m2 m3 m4 k d a b c p n mm w hb hq hl
  · exact fieldsOf_6 m0 m1 m2 m3 m4 k d a b c p n mm w hb hq hl
  · exact fieldsOf_7 m0 m1 m2 m3 m4 k d a b c p n mm w hb hq hl
  · exact fieldsOf_8 m0 m1 m2 m3 m4 k d a b c p n mm w hb hq hl
  · exact fieldsOf_9 m0 m1 m2 m3 m4 k d a b c p n mm w hb hq hl
  · exact fieldsOf_10 m0 m1 m2 m3 m4 k d a b c p n mm w hb hq hl
  · exact fieldsOf_11 m0 m1 m2 m3 m4 k d a b c p n mm w hb hq hl
  · exact fieldsOf_12 m0 m1 m2 m3 m4 k d a b c p n mm w hb hq hl
  · exact fieldsOf_13 m0 m1 m2 m3 m4 k d a b c p n mm w hb hq hl
  · exact fieldsOf_14 m0 m1 m2 m3 m4 k d a b c p n mm w hb hq hl
  · exact fieldsOf_15 m0 m1 m2 m3 m4 k d a b c p n mm w hb hq hl
  · exact fieldsOf_16 m0 m1 m2 m3 m4 k d a b c p n mm w hb hq hl
  · exact fieldsOf_17 m0 m1 m2 m3 m4 k d a b c p n mm w hb hq hl
  · exact fieldsOf_18 m0 m1 m2 m3 m4 k d a b c p n mm w hb hq hl
  · exact fieldsOf_19 m0 m1 m2 m3 m4 k d a b c p n mm w hb hq hl
end Go.Proofs.Ytedabpldigcffaa
