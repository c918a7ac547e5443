/- The checker's unused and ranged. -/
import Derived.Test.YtedabpldigcffaaCheckB
import Derived.Deep.DeepCutAuto
import Derived.Deep.CutBlock
namespace Go.Proofs.Ytedabpldigcffaa
open Go.RowKit

def Frm.fs (f : Frm) : List Int := [f.d, f.a, f.b, f.c, f.n, f.m]
def Ins.xs (x : Ins) : List Int := [x.d, x.a, x.b, x.c, x.n, x.m]
/-- The first k pairs of fields, on top of e. -/
def unusedK (e : Bool) (fs xs : List Int) : Nat → Bool
  | 0 => e
  | k + 1 => unusedK e fs xs k || (fs.getD k 0 == 0 && xs.getD k 0 != 0)
/-- Is a field that is not used not zero? -/
def unusedS (f : Frm) (x : Ins) : Bool := unusedK ((!f.k && x.k != 0) || (!f.p && x.p != 0)) f.fs x.xs 6
/-- The pairs' cells. -/
def pairCells (f : Frm) (x : Ins) : Array Value :=
  #[.int .i64 f.d, .int .i64 x.d, .int .i64 f.a, .int .i64 x.a, .int .i64 f.b, .int .i64 x.b, .int .i64 f.c, .int .i64 x.c, .int .i64 f.n, .int .i64 x.n, .int .i64 f.m, .int .i64 x.m]
theorem pairCells_get (f : Frm) (x : Ins) (k : Nat) (hk : k < 6) : (pairCells f x)[k * 2]? = some (.int .i64 (f.fs.getD k 0)) ∧ (pairCells f x)[k * 2 + 1]? = some (.int .i64 (x.xs.getD k 0)) := by
  match k, hk with
  | 0, _ | 1, _ | 2, _ | 3, _ | 4, _ | 5, _ => exact ⟨rfl, rfl⟩

/-- The form and the instruction lie in two new blocks. -/
def UnSt (w : World) (fc xc : Array Value) (wx : World) : Prop := Ext [] w wx ∧ Blk wx w.heap.size 87 fc ∧ Blk wx (w.heap.size + 1) 64 xc

theorem unusedK_succ (e : Bool) (fs xs : List Int) (k : Nat) : unusedK e fs xs (k + 1) = (unusedK e fs xs k || (fs.getD k 0 == 0 && xs.getD k 0 != 0)) := rfl

set_option maxHeartbeats 2000000 in
set_option maxRecDepth 100000 in
theorem unused_any (s : ByteArray) (f : Frm) (x : Ins) (w : World) :
    Calls Try.prog 55 #[.agg (Frm.cells s f).toArray, .agg x.cells.toArray] w fun e w' => e = .returned (.bool (unusedS f x)) ∧ Ext [] w w' := by
  have HP := hd (pairCells_get f x)
  have HU : Hd (unusedS f x = unusedK ((!f.k && x.k != 0) || (!f.p && x.p != 0)) f.fs x.xs 6) := hd rfl
  have HX := hd (show pairCells f x = _ from rfl)
  generalize hfs : f.fs = fs at *
  generalize hxs : x.xs = xs at *
  generalize hpc : pairCells f x = pc at *
  generalize hus : unusedS f x = us at *
  have Hpc := hd hpc
  clear hfs hxs hpc hus HX
  obtain ⟨fk, fd, fa, fb, fc, fn, fm, fp⟩ := f
  obtain ⟨xo, xk, xd, xa, xb, xc, xp, xn, xm⟩ := x
  simp only [Frm.cells, Ins.cells, pairCells] at *
  go_enter Try.func55, Try.ntmps55
  go_upto_region 1 with fail
  go_cut [5] (fun sl wx => sl = .bool ((!fk && xk != 0) || (!fp && xp != 0)) ∧ UnSt w (Frm.cells s ⟨fk, fd, fa, fb, fc, fn, fm, fp⟩).toArray (Ins.cells ⟨xo, xk, xd, xa, xb, xc, xp, xn, xm⟩).toArray wx)
  case first =>
    generalize hx1 : (xk != 0) = x1
    generalize hx2 : (xp != 0) = x2
    cases fk <;> cases fp <;> cases x1 <;> cases x2 <;> (go_wp2_with fail; go_meet; exact ⟨by rw [hx1, hx2]; rfl, ((Ext.refl _ _).alloc _).alloc _, (Blk.new _ _ _).alloc _, Blk.new' _ _ _ _ (by simp)⟩)
  case rest =>
    obtain ⟨rfl, hE0, hB1, hB2⟩ := hcut
    have hf1 := hB1.cell
    have hf2 := hB2.cell
    simp only [Frm.cells, Ins.cells] at hf1 hf2
    have HB1 := hd hB1
    have HB2 := hd hB2
    have hl1 := hB1.lt
    have hl2 := hB2.lt
    clear hB1 hB2
    generalize he0 : ((!fk && xk != 0) || (!fp && xp != 0)) = e0 at *
    clear he0
    go_wp2_with fail
    have hpb : ∀ (wr : World), Ext [] (wc.alloc (.cells (pairCells ⟨fk, fd, fa, fb, fc, fn, fm, fp⟩ ⟨xo, xk, xd, xa, xb, xc, xp, xn, xm⟩) 124)) wr → ∀ i, wr.cell? ⟨wc.heap.size, i, none⟩ = pc[i]? := fun wr h i => by
      rw [← Hpc.out]; exact ((Blk.new wc 124 _).ext h (by simp)).cell i
    have HPB := hd hpb
    clear hpb hf1 hf2
    go_loopw [5, 58] (fun e i wr => ∃ k : Nat, i = .int .i64 k ∧ k ≤ 6 ∧ e = .bool (unusedK e0 fs xs k) ∧ Ext [] (wc.alloc (.cells (pairCells ⟨fk, fd, fa, fb, fc, fn, fm, fp⟩ ⟨xo, xk, xd, xa, xb, xc, xp, xn, xm⟩) 124)) wr) (fun _ i _ => (6 - intOf i).toNat)
    case atStart => exact ⟨0, rfl, by omega, rfl, Ext.refl _ _⟩
    case round =>
      obtain ⟨k, rfl, hk, rfl, hE⟩ := hrel
      by_cases hlt : k < 6
      · have hc := HPB.out _ hE
        have h1 := (HP.out k hlt).1
        have h2 := (HP.out k hlt).2
        rw [← hc] at h1 h2
        have HK := hd (unusedK_succ e0 fs xs k)
        generalize unusedK e0 fs xs k = e1 at *
        generalize fs.getD k 0 = y0 at *
        generalize xs.getD k 0 = y1 at *
        clear hc
        have h0 : e1 = true ∨ (e1 = false ∧ (y0 == 0) = false) ∨ (e1 = false ∧ (y0 == 0) = true ∧ (y1 != 0) = false) ∨ (e1 = false ∧ (y0 == 0) = true ∧ (y1 != 0) = true) := by cases e1 <;> cases (y0 == 0) <;> cases (y1 != 0) <;> simp
        rcases h0 with rfl | ⟨rfl, h3⟩ | ⟨rfl, h3, h4⟩ | ⟨rfl, h3, h4⟩
        all_goals
          go_wp2_with fail
          go_round
          case rel => exact ⟨k + 1, by go_num, by omega, by rw [HK.out]; first | rfl | (rw [h3]; first | rfl | (rw [h4]; rfl)), hE.alloc _⟩
          case measure => simp [intOf]; omega
      · have h6 : k = 6 := by omega
        subst h6
        clear hk hlt
        go_wp2_with fail
        go_ret
        exact ⟨ret_bool HU.out.symm, hE0.trans ((((Ext.refl _ _).alloc _).trans hE))⟩
end Go.Proofs.Ytedabpldigcffaa
