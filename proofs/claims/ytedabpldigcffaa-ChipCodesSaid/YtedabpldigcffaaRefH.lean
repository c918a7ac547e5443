/- How many instructions are executed: the specification's recursive count. -/
import Derived.Test.YtedabpldigcffaaLawB
namespace Go.Proofs.Ytedabpldigcffaa
open Go.RowKit
set_option linter.unusedSimpArgs false
set_option linter.unusedVariables false

theorem cnt_past {xs : List Ins} {p : Nat} (h : xs.length ≤ p) (f : Nat) : cnt xs f p = (0, p) := by
  cases f with
  | zero => rfl
  | succ f => simp only [cnt, List.getElem?_eq_none_iff.2 h]
theorem cnt_end {xs : List Ins} {p : Nat} {x : Ins} (hx : xs[p]? = some x) (h4 : x.op = 4) (f : Nat) : cnt xs f p = (0, p) := by
  cases f with
  | zero => rfl
  | succ f => simp only [cnt, hx, if_pos h4]
theorem cnt_loop {xs : List Ins} {p : Nat} {x : Ins} (hx : xs[p]? = some x) (h3 : x.op = 3) (f : Nat) :
    cnt xs (f + 1) p = (1 + x.m * ((cnt xs f (p + 1)).1 + 1) + (cnt xs f ((cnt xs f (p + 1)).2 + 1)).1, (cnt xs f ((cnt xs f (p + 1)).2 + 1)).2) := by
  simp only [cnt, hx, if_pos h3, if_neg (show ¬ x.op = 4 by omega)]
theorem cnt_plain {xs : List Ins} {p : Nat} {x : Ins} (hx : xs[p]? = some x) (h3 : x.op ≠ 3) (h4 : x.op ≠ 4) (f : Nat) :
    cnt xs (f + 1) p = (1 + (cnt xs f (p + 1)).1, (cnt xs f (p + 1)).2) := by
  simp only [cnt, hx, if_neg h3, if_neg h4]
theorem cnt_bound (xs : List Ins) : ∀ f p, (cnt xs f p).2 ≤ max p xs.length + f := by
  intro f
  induction f with
  | zero => intro p; simp only [cnt]; omega
  | succ f ih =>
    intro p
    cases hx : xs[p]? with
    | none => simp only [cnt, hx]; omega
    | some x =>
      have hp := (List.getElem?_eq_some_iff.1 hx).1
      by_cases h4 : x.op = 4
      · rw [cnt_end hx h4]; simp only; omega
      by_cases h3 : x.op = 3
      · rw [cnt_loop hx h3]
        have h1 := ih (p + 1)
        by_cases he : xs.length ≤ (cnt xs f (p + 1)).2
        · rw [cnt_past (p := (cnt xs f (p + 1)).2 + 1) (by omega)]
          simp only
          omega
        · have h2 := ih ((cnt xs f (p + 1)).2 + 1)
          simp only
          omega
      · rw [cnt_plain hx h3 h4]
        have h1 := ih (p + 1)
        simp only
        omega

/-- Where the count stands: n so far, at place q, with room f. -/
structure CntSt (xs : List Ins) (N : Int) (E : Nat) (f q : Nat) (n : Int) : Prop where
  low : 0 ≤ n
  high : n ≤ 40000001
  fuel : xs.length ≤ q + f
  sum : sat (n + (cnt xs f q).1) = N
  end' : (cnt xs f q).2 = E
theorem CntSt.start {xs : List Ins} {f p : Nat} (h : xs.length ≤ p + f) : CntSt xs (sat (cnt xs f p).1) (cnt xs f p).2 f p 0 := ⟨by omega, by omega, h, by rw [Int.zero_add], rfl⟩
theorem CntSt.stop {xs : List Ins} {N : Int} {E f q : Nat} {n : Int} (h : CntSt xs N E f q n) (hc : cnt xs f q = (0, q)) : n = N ∧ q = E := by
  have h1 := h.sum
  have h2 := h.end'
  have h3 := h.low
  have h4 := h.high
  rw [hc] at h1 h2
  unfold sat at h1
  exact ⟨by simp only at h1; omega, h2⟩
theorem CntSt.plain {xs : List Ins} {N : Int} {E f q : Nat} {n : Int} {x : Ins} (hm : loopsOk xs) (h : CntSt xs N E (f + 1) q n) (hx : xs[q]? = some x) (h3 : x.op ≠ 3) (h4 : x.op ≠ 4) :
    CntSt xs N E f (q + 1) (min (n + 1) 40000001) := by
  have h1 := h.sum
  have h2 := h.end'
  have h5 := h.low
  have h6 := h.high
  have h7 := h.fuel
  have h8 := (cnt_nonneg hm f (q + 1)).1
  rw [cnt_plain hx h3 h4] at h1 h2
  simp only at h1 h2
  exact ⟨by omega, by omega, by omega, by unfold sat at *; omega, h2⟩
theorem CntSt.loop {xs : List Ins} {N : Int} {E f q : Nat} {n : Int} {x : Ins} (hm : loopsOk xs) (h : CntSt xs N E (f + 1) q n) (hx : xs[q]? = some x) (h3 : x.op = 3) :
    CntSt xs N E f ((cnt xs f (q + 1)).2 + 1) (min (n + 1 + x.m * (sat (cnt xs f (q + 1)).1 + 1)) 40000001) := by
  have h1 := h.sum
  have h2 := h.end'
  have h5 := h.low
  have h6 := h.high
  have h7 := h.fuel
  have hM := hm x (List.mem_of_getElem? hx) h3
  obtain ⟨h8, h9⟩ := cnt_nonneg hm f (q + 1)
  have h10 := (cnt_nonneg hm f ((cnt xs f (q + 1)).2 + 1)).1
  rw [cnt_loop hx h3] at h1 h2
  simp only at h1 h2
  have hlow : 0 ≤ x.m * (sat (cnt xs f (q + 1)).1 + 1) := Int.mul_nonneg hM.1 (by unfold sat; omega)
  refine ⟨by omega, by omega, by omega, ?_, h2⟩
  rw [← h1]
  generalize (cnt xs f ((cnt xs f (q + 1)).2 + 1)).1 = c2 at *
  generalize (cnt xs f (q + 1)).1 = c1 at *
  by_cases hc : c1 ≤ 40000001
  · have : sat c1 = c1 := by unfold sat; omega
    rw [this] at hlow ⊢
    generalize x.m * (c1 + 1) = z at *
    unfold sat
    omega
  · have : sat c1 = 40000001 := by unfold sat; omega
    rw [this] at hlow ⊢
    by_cases h0 : x.m = 0
    · rw [h0, Int.zero_mul, Int.zero_mul]
      unfold sat
      omega
    · have e1 : (40000001 : Int) + 1 ≤ x.m * (40000001 + 1) := by omega
      have e2 : x.m * (40000001 + 1) ≤ x.m * (c1 + 1) := Int.mul_le_mul_of_nonneg_left (by omega) hM.1
      generalize x.m * (c1 + 1) = z at *
      unfold sat
      omega
theorem CntSt.place {xs : List Ins} {N : Int} {E f q : Nat} {n : Int} (hm : loopsOk xs) (h : CntSt xs N E f q n) : q ≤ E := by
  rw [← h.end']
  exact (cnt_nonneg hm f q).2

set_option maxHeartbeats 2000000 in
set_option maxRecDepth 100000 in
theorem executed_any (A : Option Addr) (cap : Nat) (xs : List Ins) (hl : xs.length ≤ 100000) (hm : loopsOk xs) :
    ∀ F f p (w : World), f ≤ F → F ≤ 100000 → xs.length ≤ p + f → p ≤ 100001 → RdC w A xs →
      Calls Try.prog 80 #[.slice A xs.length cap, .int .i64 p] w fun e w' => e = .returned (.tuple #[.int .i64 (sat (cnt xs f p).1), .int .i64 (cnt xs f p).2]) ∧ Ext [] w w' := by
  intro F
  induction F with
  | zero =>
    intro f p w hf hF hp hp2 hR
    have hf0 : f = 0 := by omega
    subst hf0
    have hpl : xs.length ≤ p := by omega
    simp only [cnt]
    clear hR hm
    go_enter Try.func80, Try.ntmps80
    go_wp2_with fail
    go_loopw [1, 6] (fun a n wr => a = .int .i64 p ∧ n = .int .i64 0 ∧ wr = w) (fun _ _ _ => 0)
    case atStart => exact ⟨rfl, rfl, rfl⟩
    case round =>
      obtain ⟨rfl, rfl, rfl⟩ := hrel
      go_wp2_with fail
      go_ret2
      exact ⟨rfl, Ext.refl _ _⟩
  | succ F ih =>
    intro f p w hf hF hp hp2 hR
    have HS := hd (CntSt.start hp)
    have HB := hd (Nat.le_trans (cnt_bound xs f p) (show max p xs.length + f ≤ 200001 by omega))
    have HI := hd ih
    have HM := hd hm
    have HR := hd hR
    clear ih hm hR hp
    generalize sat (cnt xs f p).1 = N at *
    generalize (cnt xs f p).2 = E at *
    go_enter Try.func80, Try.ntmps80
    go_wp2_with fail
    go_loopw [1, 6] (fun a n wr => ∃ (g q : Nat) (v : Int), a = .int .i64 q ∧ n = .int .i64 v ∧ g ≤ F + 1 ∧ Hd (CntSt xs N E g q v) ∧ Ext [] w wr) (fun a _ _ => (xs.length - intOf a).toNat)
    case atStart => exact ⟨f, p, 0, rfl, rfl, hf, HS, Ext.refl _ _⟩
    case round =>
      obtain ⟨g, q, v, rfl, rfl, hg, hC, hE⟩ := hrel
      have hv0 := hC.out.low
      have hv1 := hC.out.high
      have hq := hC.out.place HM.out
      have hb := HB.out
      have hfu := hC.out.fuel
      have HE := hd hE
      by_cases hlt : q < xs.length
      · obtain ⟨x, hx⟩ : ∃ x, xs[q]? = some x := ⟨_, List.getElem?_eq_getElem hlt⟩
        obtain ⟨b, o, rfl, hbl, hcx⟩ := (HR.out.ext hE (by simp)).at hx
        have h0 := hcx 0 _ rfl
        have h8 := hcx 8 _ rfl
        simp only [Nat.add_zero] at h0
        have HX := hd hx
        cases g with
        | zero => omega
        | succ g =>
          clear hcx hx hE
          by_cases h4 : x.op = 4
          · have HZ := hd (hC.out.stop (cnt_end HX.out h4 _))
            rw [h4] at h0
            clear hC h4
            go_wp2_with fail
            go_ret2
            exact ⟨by rw [HZ.out.1, HZ.out.2]; rfl, HE.out⟩
          · have h4b : (x.op == 4) = false := by simpa using h4
            by_cases h3 : x.op = 3
            · have HC2 := hd (hC.out.loop HM.out HX.out h3)
              have hM := HM.out x (List.mem_of_getElem? HX.out) h3
              have hM0 := hM.1
              have hM1 := hM.2
              have HCN := hd (cnt_nonneg HM.out g (q + 1))
              have HCL := hd (show sat (cnt xs g (q + 1)).1 ≤ 40000001 ∧ 0 ≤ sat (cnt xs g (q + 1)).1 by have := HCN.out.1; unfold sat; omega)
              rw [h3] at h0
              clear hC h4 h4b hM
              go_wp2_with fail
              refine (HI.out g (q + 1) _ (by omega) (by omega) (by omega) (by omega) (HR.out.ext HE.out (by simp))).mono ?_
              rintro e w2 ⟨rfl, hE2⟩
              have h8' := hE2.held h8 (by simp)
              have hbl2 : b < w2.heap.size := Nat.lt_of_lt_of_le hbl hE2.size
              have HE2 := hd (HE.out.trans hE2)
              have hpl := (HC2.out.place HM.out)
              have hcn := HCN.out.2
              have hcl := HCL.out
              clear hE2 h8 h0 hbl
              generalize hcs : sat (cnt xs g (q + 1)).1 = c1 at *
              generalize hce : (cnt xs g (q + 1)).2 = e1 at *
              have hz0 : 0 ≤ x.m * (c1 + 1) := Int.mul_nonneg hM0 (by omega)
              have hz1 : x.m * (c1 + 1) ≤ 1000000 * 40000002 := Int.mul_le_mul hM1 (by omega) (by omega) (by omega)
              go_wp2_with fail
              go_round
              case rel => exact ⟨g, e1 + 1, min (v + 1 + x.m * (c1 + 1)) 40000001, by go_num, by go_num, by omega, HC2, HE2.out⟩
              case measure => simp [intOf]; omega
            · have h3b : (x.op == 3) = false := by simpa using h3
              have HC2 := hd (hC.out.plain HM.out HX.out h3 h4)
              clear hC h3 h4
              go_wp2_with fail
              go_round
              case rel => exact ⟨g, q + 1, min (v + 1) 40000001, by go_num, by go_num, by omega, HC2, HE.out⟩
              case measure => simp [intOf]; omega
      · have HZ := hd (hC.out.stop (cnt_past (by omega) _))
        clear hC hE
        go_wp2_with fail
        go_ret2
        exact ⟨by rw [HZ.out.1, HZ.out.2]; rfl, HE.out⟩
end Go.Proofs.Ytedabpldigcffaa
