/- Predict and Counts are as specified: the walk. -/
import Derived.Test.YtedabpldigcffaaPreJ
import Derived.Test.YtedabpldigcffaaChk
import Derived.Test.YtedabpldigcffaaCodB
namespace Go.Proofs.Ytedabpldigcffaa
open Go.RowKit
set_option linter.unusedSimpArgs false
set_option linter.unusedVariables false
attribute [local irreducible] relAt

theorem RdC.low {w : World} {A : Option Addr} {xs : List Ins} (h : RdC w A xs) : xs = [] ∨ ∀ a, A = some a → a.block < w.heap.size := by
  cases xs with
  | nil => exact .inl rfl
  | cons x l =>
    obtain ⟨b, o, rfl, hb, _⟩ := h.at (k := 0) (x := x) rfl
    exact .inr (fun a ha => by cases ha; exact hb)
theorem CtB.rdi {w : World} {b : Nat} {o : Int → Int} (h : CtB w b o) : RdI w (some ⟨b, 0, none⟩) (rdL o 20) :=
  .inr ⟨b, 0, rfl, fun i x hx => by rw [Nat.zero_add, Blk.cell h]; simp [Nums, hx]⟩

set_option maxHeartbeats 4000000 in
set_option maxRecDepth 100000 in
theorem chipPredicts_any (A : Option Addr) (len cap : Nat) (w : World) (hlen : len ≤ 9223372036854775807) (hA : 0 < len → ∃ b o, A = some ⟨b, o, none⟩ ∧ b < w.heap.size ∧ ∀ i, i < len → ∃ x, w.cell? ⟨b, o + i, none⟩ = some (.int .i64 x)) :
    Calls Try.prog 7 #[.slice A len cap] w fun e w' => e = .returned (.bool true) ∧ Ext [] w w' := by
  have HST := hd (stream_new A len cap w hlen hA)
  clear hA
  go_enter Try.func7, Try.ntmps7
  go_wp2_with fail
  refine (coded_any w.heap.size w.heap.size 1000 _ (HST.out.less (by omega))).mono ?_
  rintro e w1 ⟨⟨m0, m1, m2, m3, m4⟩, v, len1, rfl, hC, hl1, hE, hS⟩
  obtain ⟨A2, cap2, xs, rfl, hx, hr, hb⟩ := hC
  have HE1 : Hd (Ext [] w w1) := hd (((Ext.refl [] w).alloc _).step hE (fun i hi => .inr (by rw [List.mem_singleton.1 hi]; exact Nat.le_refl _)))
  have HR1 := hd hr
  subst hx
  clear hE hS hr hb
  simp only [Mc.cells]
  have HM2 := hd (Blk.new w1 40 #[.int .i64 m0, .int .i64 m1, .int .i64 m2, .int .i64 m3, .int .i64 m4])
  have HE2 := hd ((Ext.refl [] w1).alloc (.cells #[.int .i64 m0, .int .i64 m1, .int .i64 m2, .int .i64 m3, .int .i64 m4] 40))
  go_upto_region 2 with fail
  generalize w1.alloc (.cells #[.int .i64 m0, .int .i64 m1, .int .i64 m2, .int .i64 m3, .int .i64 m4] 40) = w2 at *
  have HRW : Hd (∀ W, Ext [] w2 W → RdC W A2 xs) := hd fun W hW => HR1.out.ext (HE2.out.trans hW) (by simp)
  have HCF := hd (fun W (hW : Ext [] w2 W) => chipFault_any ⟨m0, m1, m2, m3, m4⟩ A2 cap2 xs W (HRW.out W hW) (by omega))
  have HEW : Hd (Ext [] w w2) := hd (HE1.out.trans HE2.out)
  have qm := HM2.out.cell
  have qml := HM2.out.lt
  by_cases hc0 : checkS ⟨m0, m1, m2, m3, m4⟩ xs = 0
  · have HPR := hd (fun W (hW : Ext [] w2 W) => predict_ok ⟨m0, m1, m2, m3, m4⟩ A2 cap2 xs W (HRW.out W hW) (by omega) (HRW.out W hW).low hc0)
    have HPD := hd (fun W (hW : Ext [] w2 W) => predictedR_any ⟨m0, m1, m2, m3, m4⟩ A2 cap2 xs W (HRW.out W hW) (by omega) (HRW.out W hW).low hc0)
    have HCN := hd (fun W (hW : Ext [] w2 W) => counts_ok ⟨m0, m1, m2, m3, m4⟩ A2 cap2 xs W (HRW.out W hW) (by omega) (HRW.out W hW).low hc0)
    have HEX := hd (fun W (hW : Ext [] w2 W) => executions_any ⟨m0, m1, m2, m3, m4⟩ A2 cap2 xs W (HRW.out W hW) (by omega) (HRW.out W hW).low hc0)
    simp only [hc0, Mc.cells] at HPR HPD HCN HEX HCF
    generalize predS ⟨m0, m1, m2, m3, m4⟩ xs = P at *
    generalize (fun j => sumJ j [1] xs) = T at *
    clear hc0
    go_wp2_with fail
    refine (HPR.out _ (Ext.refl _ _)).mono ?_
    rintro e w3 ⟨rfl, hE3⟩
    have HE3 := hd hE3
    have HM3 := hd (HM2.out.ext hE3 (by simp))
    clear qm qml hE3
    have qm := HM3.out.cell
    have qml := HM3.out.lt
    go_wp2_with fail
    refine (HCN.out _ HE3.out).mono ?_
    rintro e w4 ⟨b4, rfl, hE4, hB4⟩
    have HB4 := hd hB4
    have HE4 := hd (HE3.out.trans hE4)
    have HM4 := hd (HM3.out.ext hE4 (by simp))
    clear qm qml hE4 hB4
    have qm := HM4.out.cell
    have qml := HM4.out.lt
    go_wp2_with fail
    refine (HCF.out _ HE4.out).mono ?_
    rintro e w5 ⟨rfl, hE5⟩
    have HB5 := hd (HB4.out.ext hE5 (by simp))
    have HE5 := hd (HE4.out.trans hE5)
    have HM5 := hd (HM4.out.ext hE5 (by simp))
    clear qm qml hE5
    go_wp2_with fail
    refine (chips_any _).mono ?_
    rintro e w6 ⟨rfl, hE6⟩
    have HB6 := hd (HB5.out.ext hE6 (by simp))
    have HE6 := hd (HE5.out.trans hE6)
    have HM6 := hd (HM5.out.ext hE6 (by simp))
    clear hE6
    have qm := HM6.out.cell
    have qml := HM6.out.lt
    go_wp2_with fail
    refine (HPD.out _ HE6.out).mono ?_
    rintro e w7 ⟨rfl, hE7⟩
    have HB7 := hd (HB6.out.ext hE7 (by simp))
    have HE7 := hd (HE6.out.trans hE7)
    clear qm qml hE7
    go_wp2_with fail
    refine (HEX.out _ HE7.out).mono ?_
    rintro e w8 ⟨b8, rfl, hE8, hB8⟩
    have HB8 := hd hB8
    have HB78 := hd (HB7.out.ext hE8 (by simp))
    have HE8 := hd (HE7.out.trans hE8)
    clear hE8 hB8
    simp only [id]
    go_wp2_with fail
    refine (equal_same _ _ 20 20 20 (rdL T 20) (rdL T 20) w8 HB78.out.rdi HB8.out.rdi (by omega) (rdL_length _ _) (rdL_length _ _)).mono ?_
    rintro e w9 ⟨rfl, hE9⟩
    rw [show decide (rdL T 20 = rdL T 20) = true from decide_eq_true rfl]
    have HE9 := hd (HE8.out.trans hE9)
    clear hE9
    go_wp2_with fail
    go_ret
    exact ⟨ret_bool (by simp), HEW.out.trans HE9.out⟩
  · have HPR := hd (fun W (hW : Ext [] w2 W) => predict_bad ⟨m0, m1, m2, m3, m4⟩ A2 cap2 xs W (HRW.out W hW) (by omega) hc0)
    have HCN := hd (fun W (hW : Ext [] w2 W) => counts_bad ⟨m0, m1, m2, m3, m4⟩ A2 cap2 xs W (HRW.out W hW) (by omega) hc0)
    generalize checkS ⟨m0, m1, m2, m3, m4⟩ xs = cv at *
    have hcb : (cv != 0) = true := by simpa using hc0
    simp only [Mc.cells] at HPR HCN HCF
    clear hc0
    go_wp2_with fail
    refine (HPR.out _ (Ext.refl _ _)).mono ?_
    rintro e w3 ⟨rfl, hE3⟩
    have HE3 := hd hE3
    have HM3 := hd (HM2.out.ext hE3 (by simp))
    clear qm qml hE3
    have qm := HM3.out.cell
    have qml := HM3.out.lt
    go_wp2_with fail
    refine (HCN.out _ HE3.out).mono ?_
    rintro e w4 ⟨rfl, hE4⟩
    have HE4 := hd (HE3.out.trans hE4)
    have HM4 := hd (HM3.out.ext hE4 (by simp))
    clear qm qml hE4
    have qm := HM4.out.cell
    have qml := HM4.out.lt
    go_wp2_with fail
    refine (HCF.out _ HE4.out).mono ?_
    rintro e w5 ⟨rfl, hE5⟩
    have HE5 := hd (HE4.out.trans hE5)
    clear qm qml hE5
    go_wp2_with fail
    refine (chips_any _).mono ?_
    rintro e w6 ⟨rfl, hE6⟩
    have HE6 := hd (HE5.out.trans hE6)
    clear hE6
    go_wp2_with fail
    go_ret
    exact ⟨ret_bool (by simp), HEW.out.trans HE6.out⟩
end Go.Proofs.Ytedabpldigcffaa
