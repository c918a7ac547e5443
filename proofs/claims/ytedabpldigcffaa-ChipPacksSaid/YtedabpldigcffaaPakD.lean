/- FewestTogether: the walk of the frame. Condition: few small sizes, right pairs. -/
import Derived.Test.YtedabpldigcffaaPakC
import Derived.Laws.EntriesVeiled
namespace Go.Proofs.Ytedabpldigcffaa
open Go.RowKit
set_option linter.unusedSimpArgs false
set_option linter.unusedVariables false

theorem numsz (n : Nat) : Nums (List.replicate n 0) = madeCells #[.int .i64 0] n := by
  apply Array.ext
  · simp [Nums, madeCells]
  · intro i h1 h2
    simp [Nums, madeCells, Nat.mod_one]
theorem usL_zero (zs : List Int) (banks : Nat) : usL zs banks [] = List.replicate banks 0 := by
  unfold usL
  apply List.ext_getElem
  · simp
  · intro i h1 h2
    simp [usedOf_nil]
theorem fit_nil (zs : List Int) (banks : Nat) (bank : Int) (h : 1 ≤ bank) : FitP zs banks bank [] := ⟨fun i hi => absurd hi (by simp), fun b => by rw [usedOf_nil]; omega⟩
theorem make_int (n : Nat) (hn : n ≤ 1000) (W : World) : (Instr.makeSlice 22 (.int .i64 n) (.int .i64 n)).run Try.prog W = .ok (.slice (some ⟨W.heap.size, 0, none⟩) n n) (W.alloc (.cells (madeCells #[.int .i64 0] n) 3)) :=
  run_make_row' 22 3 (.int .i64 0) 8 Try.underlying22 (by kernel_rfl) rfl .i64 .i64 n (by omega) (by omega) W

set_option maxHeartbeats 4000000 in
set_option maxRecDepth 100000 in
theorem few_any (n banks m : Nat) (bank : Int) (A B : Option Addr) (capA capB : Nat) (zs : List Int) (prs : List Pr) (w : World) (hok : PkOk n banks bank zs prs) (hm : prs.length = m) (hA : RdI w A zs) (hB : RdP w B prs) (hAb : ∀ a, A = some a → a.block < w.heap.size) (hBb : ∀ a, B = some a → a.block < w.heap.size) :
    Calls Try.prog 16 #[.slice A n capA, .slice B m capB, .int .i64 banks, .int .i64 bank] w fun e w' => e = .returned (.int .i64 (tryS zs prs banks bank n [] (-1))) ∧ Ext [] w w' := by
  have hmk := make_int n (by have := hok.n6; omega)
  have hmk2 := make_int banks (by have := hok.b8; omega)
  have HOK := hd hok
  have HRA := hd hA
  have HRB := hd hB
  have HAB := hd hAb
  have HBB := hd hBb
  have HM := hd hm
  clear hok hm hA hB hAb hBb
  have HX1 := hd ((((Ext.refl [] w).alloc (.cells #[.slice A n capA] 22)).alloc (.cells #[.slice B m capB] 28)).alloc (.cells #[.int .i64 (banks : Int)] 3))
  have HE1 := hd (HX1.out.alloc (.cells #[.int .i64 bank] 3))
  have HB4 : Hd (Blk ((((w.alloc (.cells #[.slice A n capA] 22)).alloc (.cells #[.slice B m capB] 28)).alloc (.cells #[.int .i64 (banks : Int)] 3)).alloc (.cells #[.int .i64 bank] 3)) w.heap.size 22 #[.slice A n capA]) := hd ((((Blk.new _ _ _).alloc _).alloc _).alloc _)
  have HB5 : Hd (Blk ((((w.alloc (.cells #[.slice A n capA] 22)).alloc (.cells #[.slice B m capB] 28)).alloc (.cells #[.int .i64 (banks : Int)] 3)).alloc (.cells #[.int .i64 bank] 3)) (w.heap.size + 1) 28 #[.slice B m capB]) := hd (((Blk.new' _ _ _ _ (by simp)).alloc _).alloc _)
  have HB6 : Hd (Blk ((((w.alloc (.cells #[.slice A n capA] 22)).alloc (.cells #[.slice B m capB] 28)).alloc (.cells #[.int .i64 (banks : Int)] 3)).alloc (.cells #[.int .i64 bank] 3)) (w.heap.size + 2) 3 #[.int .i64 (banks : Int)]) := hd ((Blk.new' _ _ _ _ (by simp)).alloc _)
  have HB7 : Hd (Blk ((((w.alloc (.cells #[.slice A n capA] 22)).alloc (.cells #[.slice B m capB] 28)).alloc (.cells #[.int .i64 (banks : Int)] 3)).alloc (.cells #[.int .i64 bank] 3)) (w.heap.size + 3) 3 #[.int .i64 bank]) := hd (Blk.new' _ _ _ _ (by simp))
  have HS1 : Hd (((((w.alloc (.cells #[.slice A n capA] 22)).alloc (.cells #[.slice B m capB] 28)).alloc (.cells #[.int .i64 (banks : Int)] 3)).alloc (.cells #[.int .i64 bank] 3)).heap.size = w.heap.size + 4) := hd (by simp)
  clear HX1
  go_enter Try.func16, Try.ntmps16
  go_upto_region 1 with fail
  generalize (((w.alloc (.cells #[.slice A n capA] 22)).alloc (.cells #[.slice B m capB] 28)).alloc (.cells #[.int .i64 (banks : Int)] 3)).alloc (.cells #[.int .i64 bank] 3) = w1 at *
  have HB9 : Hd (Blk (w1.alloc (.cells #[.int .i64 (-1)] 3)) (w.heap.size + 4) 3 #[.int .i64 (-1)]) := hd (Blk.new' _ _ _ _ HS1.out.symm)
  have HE2 := hd ((Ext.refl [] w1).alloc (.cells #[.int .i64 (-1)] 3))
  have HS2 : Hd ((w1.alloc (.cells #[.int .i64 (-1)] 3)).heap.size = w.heap.size + 5) := hd (by simp [HS1.out])
  go_upto_region 2 with fail
  rw [HS1.out]
  generalize w1.alloc (.cells #[.int .i64 (-1)] 3) = w2 at *
  have hb4 := HB4.out.ext HE2.out (by simp)
  have q4 := hb4.cell 0
  have l4 := hb4.lt
  have HI : Hd (Blk ((w2.alloc (.cells (madeCells #[.int .i64 0] n) 3)).alloc (.cells #[.slice (some ⟨w.heap.size + 5, 0, none⟩) n n] 22)) (w.heap.size + 5) 3 (Nums (List.replicate n 0))) := hd (by rw [numsz]; exact (Blk.new' _ _ _ _ HS2.out.symm).alloc _)
  have HB10 : Hd (Blk ((w2.alloc (.cells (madeCells #[.int .i64 0] n) 3)).alloc (.cells #[.slice (some ⟨w.heap.size + 5, 0, none⟩) n n] 22)) (w.heap.size + 6) 22 #[.slice (some ⟨w.heap.size + 5, 0, none⟩) n n]) := hd (Blk.new' _ _ _ _ (by simp [HS2.out]))
  have HE3 := hd (((Ext.refl [] w2).alloc (.cells (madeCells #[.int .i64 0] n) 3)).alloc (.cells #[.slice (some ⟨w.heap.size + 5, 0, none⟩) n n] 22))
  have HS3 : Hd (((w2.alloc (.cells (madeCells #[.int .i64 0] n) 3)).alloc (.cells #[.slice (some ⟨w.heap.size + 5, 0, none⟩) n n] 22)).heap.size = w.heap.size + 7) := hd (by simp [HS2.out])
  clear hb4
  go_upto_region 3 with fail
  rw [HS2.out]
  generalize (w2.alloc (.cells (madeCells #[.int .i64 0] n) 3)).alloc (.cells #[.slice (some ⟨w.heap.size + 5, 0, none⟩) n n] 22) = w3 at *
  clear q4 l4
  have hb6 := (HB6.out.ext HE2.out (by simp)).ext HE3.out (by simp)
  have q6 := hb6.cell 0
  have l6 := hb6.lt
  have HU : Hd (Blk ((w3.alloc (.cells (madeCells #[.int .i64 0] banks) 3)).alloc (.cells #[.slice (some ⟨w.heap.size + 7, 0, none⟩) banks banks] 22)) (w.heap.size + 7) 3 (Nums (usL zs banks []))) := hd (by rw [usL_zero, numsz]; exact (Blk.new' _ _ _ _ HS3.out.symm).alloc _)
  have HB11 : Hd (Blk ((w3.alloc (.cells (madeCells #[.int .i64 0] banks) 3)).alloc (.cells #[.slice (some ⟨w.heap.size + 7, 0, none⟩) banks banks] 22)) (w.heap.size + 8) 22 #[.slice (some ⟨w.heap.size + 7, 0, none⟩) banks banks]) := hd (Blk.new' _ _ _ _ (by simp [HS3.out]))
  have HE4 := hd (((Ext.refl [] w3).alloc (.cells (madeCells #[.int .i64 0] banks) 3)).alloc (.cells #[.slice (some ⟨w.heap.size + 7, 0, none⟩) banks banks] 22))
  have HS4 : Hd (((w3.alloc (.cells (madeCells #[.int .i64 0] banks) 3)).alloc (.cells #[.slice (some ⟨w.heap.size + 7, 0, none⟩) banks banks] 22)).heap.size = w.heap.size + 9) := hd (by simp [HS3.out])
  clear hb6
  go_upto_region 4 with fail
  rw [HS3.out]
  generalize (w3.alloc (.cells (madeCells #[.int .i64 0] banks) 3)).alloc (.cells #[.slice (some ⟨w.heap.size + 7, 0, none⟩) banks banks] 22) = w4 at *
  clear q6 l6
  go_upto_region 6 with fail
  rw [HS4.out]
  simp only [Nat.add_assoc, Nat.reduceAdd]
  have HB12 : Hd (Blk (w4.alloc (.cells #[.func (.func 46) #[] #[.pointer (some ⟨w.heap.size, 0, none⟩), .pointer (some ⟨w.heap.size + 6, 0, none⟩), .pointer (some ⟨w.heap.size + 1, 0, none⟩), .pointer (some ⟨w.heap.size + 4, 0, none⟩), .pointer (some ⟨w.heap.size + 2, 0, none⟩), .pointer (some ⟨w.heap.size + 8, 0, none⟩), .pointer (some ⟨w.heap.size + 3, 0, none⟩), .pointer (some ⟨w.heap.size + 9, 0, none⟩)]] 79)) (w.heap.size + 9) 79 #[.func (.func 46) #[] #[.pointer (some ⟨w.heap.size, 0, none⟩), .pointer (some ⟨w.heap.size + 6, 0, none⟩), .pointer (some ⟨w.heap.size + 1, 0, none⟩), .pointer (some ⟨w.heap.size + 4, 0, none⟩), .pointer (some ⟨w.heap.size + 2, 0, none⟩), .pointer (some ⟨w.heap.size + 8, 0, none⟩), .pointer (some ⟨w.heap.size + 3, 0, none⟩), .pointer (some ⟨w.heap.size + 9, 0, none⟩)]]) := hd (Blk.new' _ _ _ _ HS4.out.symm)
  have HE5 := hd ((Ext.refl [] w4).alloc (.cells #[.func (.func 46) #[] #[.pointer (some ⟨w.heap.size, 0, none⟩), .pointer (some ⟨w.heap.size + 6, 0, none⟩), .pointer (some ⟨w.heap.size + 1, 0, none⟩), .pointer (some ⟨w.heap.size + 4, 0, none⟩), .pointer (some ⟨w.heap.size + 2, 0, none⟩), .pointer (some ⟨w.heap.size + 8, 0, none⟩), .pointer (some ⟨w.heap.size + 3, 0, none⟩), .pointer (some ⟨w.heap.size + 9, 0, none⟩)]] 79))
  generalize w4.alloc (.cells #[.func (.func 46) #[] #[.pointer (some ⟨w.heap.size, 0, none⟩), .pointer (some ⟨w.heap.size + 6, 0, none⟩), .pointer (some ⟨w.heap.size + 1, 0, none⟩), .pointer (some ⟨w.heap.size + 4, 0, none⟩), .pointer (some ⟨w.heap.size + 2, 0, none⟩), .pointer (some ⟨w.heap.size + 8, 0, none⟩), .pointer (some ⟨w.heap.size + 3, 0, none⟩), .pointer (some ⟨w.heap.size + 9, 0, none⟩)]] 79) = w5 at *
  have HE35 := hd (HE4.out.trans HE5.out)
  have HE25 := hd (HE3.out.trans HE35.out)
  have HE15 := hd (HE2.out.trans HE25.out)
  have HE05 := hd (HE1.out.trans HE15.out)
  have hc : TryC w5 w.heap.size n banks bank A B capA capB m zs prs := ⟨HB4.out.ext HE15.out (by simp), HB5.out.ext HE15.out (by simp), HB6.out.ext HE15.out (by simp), HB7.out.ext HE15.out (by simp), HB10.out.ext HE35.out (by simp), HB11.out.ext HE5.out (by simp), HB12.out, HRA.out.ext HE05.out (by simp), HAB.out, HRB.out.ext HE05.out (by simp), HBB.out⟩
  have hv : TryV w5 w.heap.size n banks zs [] (-1) := ⟨HB9.out.ext HE25.out (by simp), HU.out.ext HE5.out (by simp), List.replicate n 0, by simp, by simp [nats], HI.out.ext HE35.out (by simp)⟩
  have HCALL := hd (try_any w.heap.size n banks m bank A B capA capB zs prs HOK.out HM.out n [] (-1) w5 (by simp) (fit_nil zs banks bank HOK.out.k1) hc hv (by omega))
  rw [show ((([] : List Nat).length : Nat) : Int) = 0 from rfl] at HCALL
  have q12 := HB12.out.cell 0
  have l12 := HB12.out.lt
  clear hc hv
  go_wp2_with fail
  refine HCALL.out.mono ?_
  rintro e w6 ⟨rfl, hE6, hv1, _⟩
  have q9 := hv1.cell 0
  have l9 := hv1.lt
  have HE6 : Hd (Ext [] w w6) := hd (HE05.out.step hE6 (fun i hi => .inr (by simp at hi; omega)))
  clear q12 l12 hE6 hv1
  go_wp2_with fail
  go_ret
  exact ⟨rfl, HE6.out⟩
end Go.Proofs.Ytedabpldigcffaa
