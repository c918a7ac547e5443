/- The checker's formOf: which fields an instruction uses. -/
import Derived.Test.YtedabpldigcffaaCheckA
namespace Go.Proofs.Ytedabpldigcffaa
open Go.RowKit

/-- Which fields an instruction uses, by its kind. -/
def formS (x : Ins) : Option Frm :=
  if x.op = 1 then some (⟨false, 1, 0, 0, 0, 5, 0, true⟩ : Frm)
  else if x.op = 2 then some (opForm x.k 1 true)
  else if x.op = 3 then some (⟨false, 1, 0, 0, 5, 5, 5, false⟩ : Frm)
  else if x.op = 4 then some (⟨false, 0, 0, 0, 0, 0, 0, false⟩ : Frm)
  else if x.op = 5 then some (⟨false, 1, 1, 0, 0, 5, 0, true⟩ : Frm)
  else if x.op = 6 then some (⟨false, 0, 1, 1, 0, 5, 0, true⟩ : Frm)
  else if x.op = 7 then some (⟨false, 1, 1, 0, 3, 5, 0, true⟩ : Frm)
  else if x.op = 8 then some (⟨false, 0, 1, 1, 3, 5, 0, true⟩ : Frm)
  else if x.op = 9 then some (⟨false, 2, 1, 0, 3, 5, 0, false⟩ : Frm)
  else if x.op = 10 then some (⟨false, 0, 1, 2, 3, 5, 0, false⟩ : Frm)
  else if x.op = 11 then some (opForm x.k 2 false)
  else if x.op = 12 then some (⟨false, 2, 1, 0, 0, 0, 0, false⟩ : Frm)
  else if x.op = 13 then some (⟨false, 1, 2, 0, 0, 5, 0, false⟩ : Frm)
  else if x.op = 14 then some (⟨false, 0, 1, 0, 3, 5, 5, false⟩ : Frm)
  else if x.op = 15 then some (⟨false, 0, 2, 0, 0, 0, 0, false⟩ : Frm)
  else if x.op = 16 then some (⟨false, 0, 0, 0, 0, 0, 0, false⟩ : Frm)
  else if x.op = 17 then some (⟨false, 2, 0, 0, 0, 0, 0, false⟩ : Frm)
  else if x.op = 18 then some (⟨true, 4, 1, 1, 3, 5, 5, false⟩ : Frm)
  else if x.op = 19 then some (⟨false, 4, 0, 0, 0, 0, 0, false⟩ : Frm)
  else none
def zF : Frm := ⟨false, 0, 0, 0, 0, 0, 0, false⟩

theorem results_frm2 {fn : Func} {p u : Tmp} (h : fn.results = #[.cell p 87, .tmp u]) (tmps : Array Value) (w : World) (g : Nat) (s : ByteArray) (x : Frm) (b : Bool)
    (hp : tmps.getD p undef = .pointer (some ⟨g, 0, none⟩)) (hu : tmps.getD u undef = .bool b) (hg : Blk w g 87 (Frm.cells s x).toArray) :
    (results fn tmps).run Try.prog w = .ok (.tuple #[.agg (Frm.cells s x).toArray, .bool b]) w := by
  have hl := run_loadVar_row (P := Try.prog) w g _ 87 (Frm.cells s x).toArray (0, 0) _ hg Try.underlying87 rfl (by kernel_rfl)
  rw [results_cell_tmp h, hp, hu]
  simp only [asAddr, Sem.run_pure, Result.andThen_ok, hl]

/-- What formOf answers. -/
def FormOf (x : Ins) (w : World) (e : Ending) (w' : World) : Prop := (∃ s : ByteArray, e = .returned (.tuple #[.agg (Frm.cells s ((formS x).getD zF)).toArray, .bool (formS x).isSome])) ∧ Ext [] w w'

theorem formOf_1 (k d a b c p n m : Int) (w : World) : Calls Try.prog 54 #[.agg (Ins.cells ⟨1, k, d, a, b, c, p, n, m⟩).toArray] w (FormOf ⟨1, k, d, a, b, c, p, n, m⟩ w) := by
  simp only [Ins.cells]
  go_enter Try.func54, Try.ntmps54
  go_wp2_with fail
  exact bodyPost_ret (results_frm2 rfl _ _ (w.heap.size + 1) ⟨#[110, 117, 109]⟩ ⟨false, 1, 0, 0, 0, 5, 0, true⟩ true rfl rfl (Blk.new' _ _ _ _ (by simp))) rfl ⟨⟨_, rfl⟩, ((Ext.refl _ _).alloc _).alloc _⟩
theorem formOf_2 (k d a b c p n m : Int) (w : World) : Calls Try.prog 54 #[.agg (Ins.cells ⟨2, k, d, a, b, c, p, n, m⟩).toArray] w (FormOf ⟨2, k, d, a, b, c, p, n, m⟩ w) := by
  simp only [Ins.cells]
  go_enter Try.func54, Try.ntmps54
  go_wp2_with fail
  refine (operation_any _ _ _ _ _).mono ?_
  rintro e w1 ⟨rfl, hE⟩
  have hE1 : Ext [] w w1 := (((Ext.refl [] w).alloc _).alloc _).trans hE
  have hB := (Blk.new' (w.alloc _) 87 _ (w.heap.size + 1) (by simp)).ext hE (by simp)
  obtain ⟨hc1, hf1⟩ := hB.both
  have hlt := hB.lt
  have HB := hd hB
  have HE := hd hE1
  clear hE hE1 hB
  have hS : formS ⟨2, k, d, a, b, c, p, n, m⟩ = some (opForm k 1 true) := rfl
  generalize opForm k 1 true = F at *
  have HS := hd hS
  clear hS
  obtain ⟨f1, f2, f3, f4, f5, f6, f7, f8⟩ := F
  simp only [Frm.cells]
  go_wp2_with fail
  refine bodyPost_ret (results_frm2 rfl _ _ (w.heap.size + 1) ⟨#[111, 112]⟩ ⟨f1, f2, f3, f4, f5, f6, f7, f8⟩ true rfl rfl (HB.out.all9 _ _ _ _ _ _ _ _ _)) rfl ⟨⟨⟨#[111, 112]⟩, by rw [HS.out]; rfl⟩, ?_⟩
  iterate 9 refine Ext.setAt (by right; omega) ?_
  exact HE.out
theorem formOf_3 (k d a b c p n m : Int) (w : World) : Calls Try.prog 54 #[.agg (Ins.cells ⟨3, k, d, a, b, c, p, n, m⟩).toArray] w (FormOf ⟨3, k, d, a, b, c, p, n, m⟩ w) := by
  simp only [Ins.cells]
  go_enter Try.func54, Try.ntmps54
  go_wp2_with fail
  exact bodyPost_ret (results_frm2 rfl _ _ (w.heap.size + 1) ⟨#[108, 111, 111, 112]⟩ ⟨false, 1, 0, 0, 5, 5, 5, false⟩ true rfl rfl (Blk.new' _ _ _ _ (by simp))) rfl ⟨⟨_, rfl⟩, ((Ext.refl _ _).alloc _).alloc _⟩
theorem formOf_4 (k d a b c p n m : Int) (w : World) : Calls Try.prog 54 #[.agg (Ins.cells ⟨4, k, d, a, b, c, p, n, m⟩).toArray] w (FormOf ⟨4, k, d, a, b, c, p, n, m⟩ w) := by
  simp only [Ins.cells]
  go_enter Try.func54, Try.ntmps54
  go_wp2_with fail
  exact bodyPost_ret (results_frm2 rfl _ _ (w.heap.size + 1) ⟨#[101, 110, 100]⟩ ⟨false, 0, 0, 0, 0, 0, 0, false⟩ true rfl rfl (Blk.new' _ _ _ _ (by simp))) rfl ⟨⟨_, rfl⟩, ((Ext.refl _ _).alloc _).alloc _⟩
theorem formOf_5 (k d a b c p n m : Int) (w : World) : Calls Try.prog 54 #[.agg (Ins.cells ⟨5, k, d, a, b, c, p, n, m⟩).toArray] w (FormOf ⟨5, k, d, a, b, c, p, n, m⟩ w) := by
  simp only [Ins.cells]
  go_enter Try.func54, Try.ntmps54
  go_wp2_with fail
  exact bodyPost_ret (results_frm2 rfl _ _ (w.heap.size + 1) ⟨#[108, 100, 109]⟩ ⟨false, 1, 1, 0, 0, 5, 0, true⟩ true rfl rfl (Blk.new' _ _ _ _ (by simp))) rfl ⟨⟨_, rfl⟩, ((Ext.refl _ _).alloc _).alloc _⟩
theorem formOf_6 (k d a b c p n m : Int) (w : World) : Calls Try.prog 54 #[.agg (Ins.cells ⟨6, k, d, a, b, c, p, n, m⟩).toArray] w (FormOf ⟨6, k, d, a, b, c, p, n, m⟩ w) := by
  simp only [Ins.cells]
  go_enter Try.func54, Try.ntmps54
  go_wp2_with fail
  exact bodyPost_ret (results_frm2 rfl _ _ (w.heap.size + 1) ⟨#[115, 116, 109]⟩ ⟨false, 0, 1, 1, 0, 5, 0, true⟩ true rfl rfl (Blk.new' _ _ _ _ (by simp))) rfl ⟨⟨_, rfl⟩, ((Ext.refl _ _).alloc _).alloc _⟩
theorem formOf_7 (k d a b c p n m : Int) (w : World) : Calls Try.prog 54 #[.agg (Ins.cells ⟨7, k, d, a, b, c, p, n, m⟩).toArray] w (FormOf ⟨7, k, d, a, b, c, p, n, m⟩ w) := by
  simp only [Ins.cells]
  go_enter Try.func54, Try.ntmps54
  go_wp2_with fail
  exact bodyPost_ret (results_frm2 rfl _ _ (w.heap.size + 1) ⟨#[108, 100, 115]⟩ ⟨false, 1, 1, 0, 3, 5, 0, true⟩ true rfl rfl (Blk.new' _ _ _ _ (by simp))) rfl ⟨⟨_, rfl⟩, ((Ext.refl _ _).alloc _).alloc _⟩
theorem formOf_8 (k d a b c p n m : Int) (w : World) : Calls Try.prog 54 #[.agg (Ins.cells ⟨8, k, d, a, b, c, p, n, m⟩).toArray] w (FormOf ⟨8, k, d, a, b, c, p, n, m⟩ w) := by
  simp only [Ins.cells]
  go_enter Try.func54, Try.ntmps54
  go_wp2_with fail
  exact bodyPost_ret (results_frm2 rfl _ _ (w.heap.size + 1) ⟨#[115, 116, 115]⟩ ⟨false, 0, 1, 1, 3, 5, 0, true⟩ true rfl rfl (Blk.new' _ _ _ _ (by simp))) rfl ⟨⟨_, rfl⟩, ((Ext.refl _ _).alloc _).alloc _⟩
theorem formOf_9 (k d a b c p n m : Int) (w : World) : Calls Try.prog 54 #[.agg (Ins.cells ⟨9, k, d, a, b, c, p, n, m⟩).toArray] w (FormOf ⟨9, k, d, a, b, c, p, n, m⟩ w) := by
  simp only [Ins.cells]
  go_enter Try.func54, Try.ntmps54
  go_wp2_with fail
  exact bodyPost_ret (results_frm2 rfl _ _ (w.heap.size + 1) ⟨#[118, 108, 100]⟩ ⟨false, 2, 1, 0, 3, 5, 0, false⟩ true rfl rfl (Blk.new' _ _ _ _ (by simp))) rfl ⟨⟨_, rfl⟩, ((Ext.refl _ _).alloc _).alloc _⟩
theorem formOf_10 (k d a b c p n m : Int) (w : World) : Calls Try.prog 54 #[.agg (Ins.cells ⟨10, k, d, a, b, c, p, n, m⟩).toArray] w (FormOf ⟨10, k, d, a, b, c, p, n, m⟩ w) := by
  simp only [Ins.cells]
  go_enter Try.func54, Try.ntmps54
  go_wp2_with fail
  exact bodyPost_ret (results_frm2 rfl _ _ (w.heap.size + 1) ⟨#[118, 115, 116]⟩ ⟨false, 0, 1, 2, 3, 5, 0, false⟩ true rfl rfl (Blk.new' _ _ _ _ (by simp))) rfl ⟨⟨_, rfl⟩, ((Ext.refl _ _).alloc _).alloc _⟩
theorem formOf_11 (k d a b c p n m : Int) (w : World) : Calls Try.prog 54 #[.agg (Ins.cells ⟨11, k, d, a, b, c, p, n, m⟩).toArray] w (FormOf ⟨11, k, d, a, b, c, p, n, m⟩ w) := by
  simp only [Ins.cells]
  go_enter Try.func54, Try.ntmps54
  go_wp2_with fail
  refine (operation_any _ _ _ _ _).mono ?_
  rintro e w1 ⟨rfl, hE⟩
  have hE1 : Ext [] w w1 := (((Ext.refl [] w).alloc _).alloc _).trans hE
  have hB := (Blk.new' (w.alloc _) 87 _ (w.heap.size + 1) (by simp)).ext hE (by simp)
  obtain ⟨hc1, hf1⟩ := hB.both
  have hlt := hB.lt
  have HB := hd hB
  have HE := hd hE1
  clear hE hE1 hB
  have hS : formS ⟨11, k, d, a, b, c, p, n, m⟩ = some (opForm k 2 false) := rfl
  generalize opForm k 2 false = F at *
  have HS := hd hS
  clear hS
  obtain ⟨f1, f2, f3, f4, f5, f6, f7, f8⟩ := F
  simp only [Frm.cells]
  go_wp2_with fail
  refine bodyPost_ret (results_frm2 rfl _ _ (w.heap.size + 1) ⟨#[118, 111, 112]⟩ ⟨f1, f2, f3, f4, f5, f6, f7, f8⟩ true rfl rfl (HB.out.all9 _ _ _ _ _ _ _ _ _)) rfl ⟨⟨⟨#[118, 111, 112]⟩, by rw [HS.out]; rfl⟩, ?_⟩
  iterate 9 refine Ext.setAt (by right; omega) ?_
  exact HE.out
theorem formOf_12 (k d a b c p n m : Int) (w : World) : Calls Try.prog 54 #[.agg (Ins.cells ⟨12, k, d, a, b, c, p, n, m⟩).toArray] w (FormOf ⟨12, k, d, a, b, c, p, n, m⟩ w) := by
  simp only [Ins.cells]
  go_enter Try.func54, Try.ntmps54
  go_wp2_with fail
  exact bodyPost_ret (results_frm2 rfl _ _ (w.heap.size + 1) ⟨#[118, 100, 117, 112]⟩ ⟨false, 2, 1, 0, 0, 0, 0, false⟩ true rfl rfl (Blk.new' _ _ _ _ (by simp))) rfl ⟨⟨_, rfl⟩, ((Ext.refl _ _).alloc _).alloc _⟩
theorem formOf_13 (k d a b c p n m : Int) (w : World) : Calls Try.prog 54 #[.agg (Ins.cells ⟨13, k, d, a, b, c, p, n, m⟩).toArray] w (FormOf ⟨13, k, d, a, b, c, p, n, m⟩ w) := by
  simp only [Ins.cells]
  go_enter Try.func54, Try.ntmps54
  go_wp2_with fail
  exact bodyPost_ret (results_frm2 rfl _ _ (w.heap.size + 1) ⟨#[118, 103, 101, 116]⟩ ⟨false, 1, 2, 0, 0, 5, 0, false⟩ true rfl rfl (Blk.new' _ _ _ _ (by simp))) rfl ⟨⟨_, rfl⟩, ((Ext.refl _ _).alloc _).alloc _⟩
theorem formOf_14 (k d a b c p n m : Int) (w : World) : Calls Try.prog 54 #[.agg (Ins.cells ⟨14, k, d, a, b, c, p, n, m⟩).toArray] w (FormOf ⟨14, k, d, a, b, c, p, n, m⟩ w) := by
  simp only [Ins.cells]
  go_enter Try.func54, Try.ntmps54
  go_wp2_with fail
  exact bodyPost_ret (results_frm2 rfl _ _ (w.heap.size + 1) ⟨#[119, 116, 115]⟩ ⟨false, 0, 1, 0, 3, 5, 5, false⟩ true rfl rfl (Blk.new' _ _ _ _ (by simp))) rfl ⟨⟨_, rfl⟩, ((Ext.refl _ _).alloc _).alloc _⟩
theorem formOf_15 (k d a b c p n m : Int) (w : World) : Calls Try.prog 54 #[.agg (Ins.cells ⟨15, k, d, a, b, c, p, n, m⟩).toArray] w (FormOf ⟨15, k, d, a, b, c, p, n, m⟩ w) := by
  simp only [Ins.cells]
  go_enter Try.func54, Try.ntmps54
  go_wp2_with fail
  exact bodyPost_ret (results_frm2 rfl _ _ (w.heap.size + 1) ⟨#[109, 97, 99]⟩ ⟨false, 0, 2, 0, 0, 0, 0, false⟩ true rfl rfl (Blk.new' _ _ _ _ (by simp))) rfl ⟨⟨_, rfl⟩, ((Ext.refl _ _).alloc _).alloc _⟩
theorem formOf_16 (k d a b c p n m : Int) (w : World) : Calls Try.prog 54 #[.agg (Ins.cells ⟨16, k, d, a, b, c, p, n, m⟩).toArray] w (FormOf ⟨16, k, d, a, b, c, p, n, m⟩ w) := by
  simp only [Ins.cells]
  go_enter Try.func54, Try.ntmps54
  go_wp2_with fail
  exact bodyPost_ret (results_frm2 rfl _ _ (w.heap.size + 1) ⟨#[99, 108, 114]⟩ ⟨false, 0, 0, 0, 0, 0, 0, false⟩ true rfl rfl (Blk.new' _ _ _ _ (by simp))) rfl ⟨⟨_, rfl⟩, ((Ext.refl _ _).alloc _).alloc _⟩
theorem formOf_17 (k d a b c p n m : Int) (w : World) : Calls Try.prog 54 #[.agg (Ins.cells ⟨17, k, d, a, b, c, p, n, m⟩).toArray] w (FormOf ⟨17, k, d, a, b, c, p, n, m⟩ w) := by
  simp only [Ins.cells]
  go_enter Try.func54, Try.ntmps54
  go_wp2_with fail
  exact bodyPost_ret (results_frm2 rfl _ _ (w.heap.size + 1) ⟨#[97, 99, 99]⟩ ⟨false, 2, 0, 0, 0, 0, 0, false⟩ true rfl rfl (Blk.new' _ _ _ _ (by simp))) rfl ⟨⟨_, rfl⟩, ((Ext.refl _ _).alloc _).alloc _⟩
theorem formOf_18 (k d a b c p n m : Int) (w : World) : Calls Try.prog 54 #[.agg (Ins.cells ⟨18, k, d, a, b, c, p, n, m⟩).toArray] w (FormOf ⟨18, k, d, a, b, c, p, n, m⟩ w) := by
  simp only [Ins.cells]
  go_enter Try.func54, Try.ntmps54
  go_wp2_with fail
  exact bodyPost_ret (results_frm2 rfl _ _ (w.heap.size + 1) ⟨#[116, 114]⟩ ⟨true, 4, 1, 1, 3, 5, 5, false⟩ true rfl rfl (Blk.new' _ _ _ _ (by simp))) rfl ⟨⟨_, rfl⟩, ((Ext.refl _ _).alloc _).alloc _⟩
theorem formOf_19 (k d a b c p n m : Int) (w : World) : Calls Try.prog 54 #[.agg (Ins.cells ⟨19, k, d, a, b, c, p, n, m⟩).toArray] w (FormOf ⟨19, k, d, a, b, c, p, n, m⟩ w) := by
  simp only [Ins.cells]
  go_enter Try.func54, Try.ntmps54
  go_wp2_with fail
  exact bodyPost_ret (results_frm2 rfl _ _ (w.heap.size + 1) ⟨#[119, 97, 105, 116]⟩ ⟨false, 4, 0, 0, 0, 0, 0, false⟩ true rfl rfl (Blk.new' _ _ _ _ (by simp))) rfl ⟨⟨_, rfl⟩, ((Ext.refl _ _).alloc _).alloc _⟩
theorem formOf_else (o k d a b c p n m : Int) (w : World) (h : ¬ (1 ≤ o ∧ o ≤ 19)) : Calls Try.prog 54 #[.agg (Ins.cells ⟨o, k, d, a, b, c, p, n, m⟩).toArray] w (FormOf ⟨o, k, d, a, b, c, p, n, m⟩ w) := by
  have t1 : (o == 1) = false := beq_eq_false_iff_ne.2 (by omega)
  have t2 : (o == 2) = false := beq_eq_false_iff_ne.2 (by omega)
  have t3 : (o == 3) = false := beq_eq_false_iff_ne.2 (by omega)
  have t4 : (o == 4) = false := beq_eq_false_iff_ne.2 (by omega)
  have t5 : (o == 5) = false := beq_eq_false_iff_ne.2 (by omega)
  have t6 : (o == 6) = false := beq_eq_false_iff_ne.2 (by omega)
  have t7 : (o == 7) = false := beq_eq_false_iff_ne.2 (by omega)
  have t8 : (o == 8) = false := beq_eq_false_iff_ne.2 (by omega)
  have t9 : (o == 9) = false := beq_eq_false_iff_ne.2 (by omega)
  have t10 : (o == 10) = false := beq_eq_false_iff_ne.2 (by omega)
  have t11 : (o == 11) = false := beq_eq_false_iff_ne.2 (by omega)
  have t12 : (o == 12) = false := beq_eq_false_iff_ne.2 (by omega)
  have t13 : (o == 13) = false := beq_eq_false_iff_ne.2 (by omega)
  have t14 : (o == 14) = false := beq_eq_false_iff_ne.2 (by omega)
  have t15 : (o == 15) = false := beq_eq_false_iff_ne.2 (by omega)
  have t16 : (o == 16) = false := beq_eq_false_iff_ne.2 (by omega)
  have t17 : (o == 17) = false := beq_eq_false_iff_ne.2 (by omega)
  have t18 : (o == 18) = false := beq_eq_false_iff_ne.2 (by omega)
  have t19 : (o == 19) = false := beq_eq_false_iff_ne.2 (by omega)
  have hS : formS ⟨o, k, d, a, b, c, p, n, m⟩ = none := by
    have u1 : ¬ o = 1 := by omega
    have u2 : ¬ o = 2 := by omega
    have u3 : ¬ o = 3 := by omega
    have u4 : ¬ o = 4 := by omega
    have u5 : ¬ o = 5 := by omega
    have u6 : ¬ o = 6 := by omega
    have u7 : ¬ o = 7 := by omega
    have u8 : ¬ o = 8 := by omega
    have u9 : ¬ o = 9 := by omega
    have u10 : ¬ o = 10 := by omega
    have u11 : ¬ o = 11 := by omega
    have u12 : ¬ o = 12 := by omega
    have u13 : ¬ o = 13 := by omega
    have u14 : ¬ o = 14 := by omega
    have u15 : ¬ o = 15 := by omega
    have u16 : ¬ o = 16 := by omega
    have u17 : ¬ o = 17 := by omega
    have u18 : ¬ o = 18 := by omega
    have u19 : ¬ o = 19 := by omega
    simp only [formS, u1, u2, u3, u4, u5, u6, u7, u8, u9, u10, u11, u12, u13, u14, u15, u16, u17, u18, u19, if_false]
  have HS := hd hS
  clear hS h
  simp only [Ins.cells]
  go_enter Try.func54, Try.ntmps54
  go_wp2_with fail
  exact bodyPost_ret (results_frm2 rfl _ _ (w.heap.size + 1) ⟨#[]⟩ zF false rfl rfl (Blk.new' _ _ _ _ (by simp))) rfl ⟨⟨⟨#[]⟩, by rw [HS.out]; rfl⟩, ((Ext.refl _ _).alloc _).alloc _⟩

theorem formOf_any (x : Ins) (w : World) : Calls Try.prog 54 #[.agg x.cells.toArray] w (FormOf x w) := by
  obtain ⟨o, k, d, a, b, c, p, n, m⟩ := x
  by_cases h : 1 ≤ o ∧ o ≤ 19
  · have hc : o = 1 ∨ o = 2 ∨ o = 3 ∨ o = 4 ∨ o = 5 ∨ o = 6 ∨ o = 7 ∨ o = 8 ∨ o = 9 ∨ o = 10 ∨ o = 11 ∨ o = 12 ∨ o = 13 ∨ o = 14 ∨ o = 15 ∨ o = 16 ∨ o = 17 ∨ o = 18 ∨ o = 19 := by omega
    rcases hc with rfl | rfl | rfl | rfl | rfl | rfl | rfl | rfl | rfl | rfl | rfl | rfl | rfl | rfl | rfl | rfl | rfl | rfl | rfl
    · exact formOf_1 k d a b c p n m w
    · exact formOf_2 k d a b c p n m w
    · exact formOf_3 k d a b c p n m w
    · exact formOf_4 k d a b c p n m w
    · exact formOf_5 k d a b c p n m w
    · exact formOf_6 k d a b c p n m w
    · exact formOf_7 k d a b c p n m w
    · exact formOf_8 k d a b c p n m w
    · exact formOf_9 k d a b c p n m w
    · exact formOf_10 k d a b c p n m w
    · exact formOf_11 k d a b c p n m w
    · exact formOf_12 k d a b c p n m w
    · exact formOf_13 k d a b c p n m w
    · exact formOf_14 k d a b c p n m w
    · exact formOf_15 k d a b c p n m w
    · exact formOf_16 k d a b c p n m w
    · exact formOf_17 k d a b c p n m w
    · exact formOf_18 k d a b c p n m w
    · exact formOf_19 k d a b c p n m w
  · exact formOf_else o k d a b c p n m w h
end Go.Proofs.Ytedabpldigcffaa
