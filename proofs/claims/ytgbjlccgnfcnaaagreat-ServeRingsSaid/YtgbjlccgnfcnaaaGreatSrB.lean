/- ringFault: the walk. -/
import Derived.Test.YtgbjlccgnfcnaaaGreatSrA
namespace Go.Proofs.YtgbjlccgnfcnaaaGreat
open Go.RowKit
set_option linter.unusedSimpArgs false
set_option linter.unusedVariables false

def badW (x : Int) : Bool := !inB x (-2147483648) 2147483647
theorem fC_any (x : Int) (w : World) : Calls Tryz.prog 54 #[.int .i64 x] w fun e w' => e = .returned (.bool (badW x)) ∧ w = w' := by
  by_cases h1 : x < -2147483648
  · have h2 : decide (x < -2147483648) = true := by simpa using h1
    go_enter Tryz.func54, Tryz.ntmps54
    go_wp2
    go_ret
    exact ⟨ret_bool (by simp [badW, inB]; omega), rfl⟩
  · have h2 : decide (x < -2147483648) = false := by simpa using h1
    go_enter Tryz.func54, Tryz.ntmps54
    go_wp2
    go_ret
    exact ⟨ret_bool (by have : decide (-2147483648 ≤ x) = true := by simp; omega
                        have h9 : decide (2147483647 < x) = !decide (x ≤ 2147483647) := by rw [← decide_not]; exact decide_eq_decide.2 (by omega)
                        simp only [badW, inB, this, Bool.true_and]; exact h9), rfl⟩
set_option maxRecDepth 100000 in
theorem fC_index (A : Option Addr) (n cap : Nat) (xs : List Int) (w : World) (hR : RdI w A xs) (hx : xs.length = n) (hn9 : n ≤ 100000) :
    Calls Tryz.prog 74 #[.slice A n cap, .func (.func 54) #[] #[]] w (IdxP (xs.any badW) w) := by
  have HR := hd hR
  have HL := hd hx
  clear hR hx
  go_enter Tryz.func74, Tryz.ntmps74
  go_wp2_with fail
  go_loopw [8] (fun i wr => ∃ k : Nat, i = .int .i64 k ∧ k ≤ n ∧ Hd (Ext [] w wr) ∧ Hd (∀ (j : Nat) (x : Int), j < k → xs[j]? = some x → badW x = false)) (fun i _ => (n - intOf i).toNat)
  case atStart => exact ⟨0, rfl, Nat.zero_le _, hd (Ext.refl _ _), hd fun j x hj => absurd hj (by omega)⟩
  case round =>
    obtain ⟨k, rfl, hk, HE, HN⟩ := hrel
    rename World => wq
    by_cases hlt : k < n
    · have hx := List.getElem?_eq_getElem (l := xs) (i := k) (by have := HL.out; omega)
      rcases HR.out.ext HE.o (by simp) with h0 | ⟨b, o, rfl, hc⟩
      · have := HL.out; simp [h0] at this; omega
      have hcx := hc k _ hx
      have HX := hd hx
      generalize xs[k]'_ = x at hcx HX
      clear hc hx
      go_wp2_with fail
      refine (fC_any x _).mono ?_
      rintro e w' ⟨rfl, rfl⟩
      cases hp : badW x
      · have HQ := hd hp
        clear hp
        go_wp2_with fail
        go_roundw
        case rel =>
          refine ⟨k + 1, by go_num, by omega, HE, hd fun j y hj hy => ?_⟩
          rcases Nat.lt_or_ge j k with h1 | h1
          · exact HN.o j y h1 hy
          · have : j = k := by omega
            subst this
            have := HX.o.symm.trans hy
            cases this
            exact HQ.o
        case measure => simp [intOf]; omega
      · have HQ := hd hp
        clear hp
        go_wp2_with fail
        go_ret
        exact ⟨_, rfl, by rw [any_at HX.o HQ.o]; simp, HE.o⟩
    · go_wp2_with fail
      go_ret
      exact ⟨_, rfl, by rw [any_upto HL.o (fun j x hj hx => HN.o j x (by omega) hx)]; rfl, HE.o⟩
theorem fC_has (A : Option Addr) (n cap : Nat) (xs : List Int) (w : World) (hR : RdI w A xs) (hx : xs.length = n) (hn9 : n ≤ 100000) :
    Calls Tryz.prog 53 #[.slice A n cap, .func (.func 54) #[] #[]] w (HasP (xs.any badW) w) := by
  have HI := hd (fC_index A n cap xs w hR hx hn9)
  clear hR hx
  go_enter Tryz.func53, Tryz.ntmps53
  go_wp2_with fail
  refine HI.o.mono ?_
  rintro e w' ⟨r, rfl, hr, hE⟩
  have HR := hd hr
  have HE := hd hE
  clear hr hE
  go_wp2_with fail
  go_ret
  exact ⟨ret_bool (by rw [← HR.o]), HE.o⟩
/-- The length of the first list. -/
def len0 (L : List Pt) : Nat := (L.head?.map fun x => x.xs.length).getD 0
theorem len0_of {L : List Pt} {A : Option Addr} {c : Nat} {xs : List Int} (h : L[0]? = some ⟨A, c, xs⟩) : len0 L = xs.length := by
  cases L with
  | nil => cases h
  | cons a L => simp at h; subst h; rfl
def badP (x : Pt) : Bool := x.xs.any badW
/-- The error of Ring. -/
def ringE (L : List Pt) : Int := if ¬(1 ≤ L.length ∧ L.length ≤ 4) then 9 else if L.any over1 then 2 else if L.any (odd1 (len0 L)) then 3 else if L.any badP then 9 else 0
set_option maxHeartbeats 2000000 in
set_option maxRecDepth 100000 in
theorem ringFault_any (A : Option Addr) (b n cap : Nat) (L : List Pt) (w : World) (hA : 0 < n → A = some ⟨b, 0, none⟩) (h : PtsIn w b L) (hl : L.length = n) (hn9 : n ≤ 1000) :
    Calls Tryz.prog 24 #[.slice A n cap] w fun e w' => e = .returned (.int .i64 (ringE L)) ∧ Ext [] w w' := by
  have HP := hd h
  have HL := hd hl
  clear h hl
  by_cases h0 : n = 0
  · subst h0
    have HV : Hd (ringE L = 9) := hd (by unfold ringE; rw [if_pos (by rw [HL.o]; omega)])
    go_enter Tryz.func24, Tryz.ntmps24
    go_wp2_with fail
    go_ret
    exact ⟨ret_int HV.o.symm, (Ext.refl _ _).alloc _⟩
  · obtain rfl := hA (by omega)
    clear hA
    by_cases h4 : n ≤ 4
    · have hH1 := hd (fA_has b n cap L (w.alloc (.cells #[.slice (some ⟨b, 0, none⟩) n cap] 51)) (HP.o.ext ((Ext.refl [] w).alloc _)) HL.o (by omega))
      have HE0 := hd ((Ext.refl [] w).alloc (.cells #[.slice (some ⟨b, 0, none⟩) n cap] 51))
      have HB0 := hd (Blk.new w 51 #[.slice (some ⟨b, 0, none⟩) n cap])
      obtain ⟨A0, d0, n0, xs0, hx0, hn0, hc0, hR0, h90⟩ := HP.o.at (i := 0) (by have := HL.o; omega)
      have HN0 := hd (show len0 L = n0 by rw [len0_of hx0, hn0])
      have HC0 := hd hc0
      clear hx0 hn0 hc0 hR0
      go_enter Tryz.func24, Tryz.ntmps24
      go_wp2_with fail
      refine hH1.o.mono ?_
      rintro e w1 ⟨rfl, hE1⟩
      have HE1 := hd (HE0.o.trans hE1)
      have HB1 := hd (HB0.o.ext hE1 (by simp))
      clear hE1 HB0
      cases hp1 : L.any over1
      · have HQ1 := hd hp1
        clear hp1
        have hb1 := HB1.o.cell 0
        simp only [List.getElem?_toArray, List.getElem?_cons_zero] at hb1
        go_wp2_with fail
        refine (fB_has b n cap L w.heap.size b n cap n0 d0 A0 w1 (HP.o.ext HE1.o) HL.o (by omega) hb1 (by omega) (HE1.o.held HC0.o (by simp)) (by omega)).mono ?_
        rintro e w2 ⟨rfl, hE2⟩
        have HE2 := hd (HE1.o.trans hE2)
        have HB2 := hd (HB1.o.ext hE2 (by simp))
        have hb2 := HB2.o.cell 0
        simp only [List.getElem?_toArray, List.getElem?_cons_zero] at hb2
        clear hE2 HB1 hb1
        cases hp2 : L.any (odd1 n0)
        · have HQ2 := hd hp2
          clear hp2
          go_wp2_with fail
          go_loopw [23] (fun i wr => ∃ k : Nat, i = .int .i64 k ∧ k ≤ n ∧ Hd (Ext [] w wr) ∧ Hd (∀ (j : Nat) (x : Pt), j < k → L[j]? = some x → badP x = false)) (fun i _ => (n - intOf i).toNat)
          case atStart => exact ⟨0, rfl, Nat.zero_le _, HE2, hd fun j x hj => absurd hj (by omega)⟩
          case round =>
            obtain ⟨k, rfl, hk, HE, HN⟩ := hrel
            rename World => wq
            by_cases hlt : k < n
            · obtain ⟨A, c, m, xs, hx, hm, hc, hR, hm9⟩ := (HP.o.ext HE.o).at (i := k) (by have := HL.o; omega)
              have HX := hd hx
              have HM := hd hm
              have HR := hd hR
              clear hx hm hR
              go_wp2_with fail
              refine (fC_has A m c xs wq HR.o HM.o hm9).mono ?_
              rintro e w' ⟨rfl, hE⟩
              have HE2 := hd (HE.o.trans hE)
              clear hE
              cases hp : xs.any badW
              · have HQ := hd hp
                clear hp
                go_wp2_with fail
                go_roundw
                case rel =>
                  refine ⟨k + 1, by go_num, by omega, HE2, hd fun j x hj hx => ?_⟩
                  rcases Nat.lt_or_ge j k with h1 | h1
                  · exact HN.o j x h1 hx
                  · have : j = k := by omega
                    subst this
                    have := HX.o.symm.trans hx
                    cases this
                    exact HQ.o
                case measure => simp [intOf]; omega
              · have HQ := hd hp
                clear hp
                have HV : Hd (ringE L = 9) := hd (by unfold ringE; rw [if_neg (by rw [HL.o]; omega), if_neg (by rw [HQ1.o]; simp), HN0.o, if_neg (by rw [HQ2.o]; simp), if_pos (any_at HX.o HQ.o)])
                go_wp2_with fail
                go_ret
                exact ⟨ret_int HV.o.symm, HE2.o⟩
            · have HV : Hd (ringE L = 0) := hd (by unfold ringE; rw [if_neg (by rw [HL.o]; omega), if_neg (by rw [HQ1.o]; simp), HN0.o, if_neg (by rw [HQ2.o]; simp), if_neg (by rw [any_upto HL.o (fun j x hj hx => HN.o j x (by omega) hx)]; simp)])
              go_wp2_with fail
              go_ret
              exact ⟨ret_int HV.o.symm, HE.o⟩
        · have HV : Hd (ringE L = 3) := hd (by unfold ringE; rw [if_neg (by rw [HL.o]; omega), if_neg (by rw [HQ1.o]; simp), HN0.o, if_pos hp2])
          clear hp2
          go_wp2_with fail
          go_ret
          exact ⟨ret_int HV.o.symm, HE2.o⟩
      · have HV : Hd (ringE L = 2) := hd (by unfold ringE; rw [if_neg (by rw [HL.o]; omega), if_pos hp1])
        clear hp1
        go_wp2_with fail
        go_ret
        exact ⟨ret_int HV.o.symm, HE1.o⟩
    · have HV : Hd (ringE L = 9) := hd (by unfold ringE; rw [if_pos (by rw [HL.o]; omega)])
      have hq1 : decide ((n : Int) < 1) = false := by simp; omega
      have hq2 : decide (4 < (n : Int)) = true := by simp; omega
      go_enter Tryz.func24, Tryz.ntmps24
      go_wp2_with fail
      go_ret
      exact ⟨ret_int HV.o.symm, (Ext.refl _ _).alloc _⟩
end Go.Proofs.YtgbjlccgnfcnaaaGreat
