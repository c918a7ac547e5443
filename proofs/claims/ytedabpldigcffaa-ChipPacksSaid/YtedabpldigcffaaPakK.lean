/- Max; the sizes: the walk. -/
import Derived.Test.YtedabpldigcffaaPakJ
namespace Go.Proofs.Ytedabpldigcffaa
open Go.RowKit
set_option linter.unusedSimpArgs false
set_option linter.unusedVariables false

set_option maxHeartbeats 2000000 in
set_option maxRecDepth 100000 in
theorem maxInt_le (A : Option Addr) (n cap : Nat) (xs : List Int) (b : Int) (w : World) (h : RdI w A xs) (hn : xs.length = n) (h0 : 1 ≤ n) (hl : n ≤ 1000) (hb : ∀ i, i < n → gi xs i ≤ b) :
    Calls Try.prog 14 #[.slice A n cap] w fun e w' => ∃ r : Int, e = .returned (.int .i64 r) ∧ r ≤ b ∧ Ext [] w w' := by
  have HR := hd h
  have HN := hd hn
  have HB := hd hb
  obtain ⟨b0, o0, rfl, l0, q0⟩ := h.at (k := 0) (by omega)
  have hb0 := hb 0 (by omega)
  generalize gi xs 0 = x0 at *
  simp only [Nat.add_zero] at q0
  clear h hn hb
  go_enter Try.func14, Try.ntmps14
  go_wp2_with fail
  go_loopw [3, 4] (fun v i wr => ∃ (r : Int) (k : Nat), v = .int .i64 r ∧ i = .int .i64 k ∧ 1 ≤ k ∧ k ≤ n ∧ r ≤ b ∧ Hd (Ext [] w wr)) (fun _ i _ => (n - intOf i).toNat)
  case atStart => exact ⟨_, 1, rfl, rfl, Nat.le_refl _, h0, hb0, hd (Ext.refl _ _)⟩
  case round =>
    obtain ⟨r, k, rfl, rfl, hk1, hk, hr, HE⟩ := hrel
    clear l0 q0
    rename World => w1
    by_cases hlt : k < n
    · obtain ⟨b1, o1, he, l1, q1⟩ := (HR.out.ext HE.out (by simp)).at (k := k) (by rw [HN.out]; exact hlt)
      cases he
      have hbk := HB.out k hlt
      generalize gi xs k = x at *
      go_wp2_with fail
      go_roundw
      case rel => exact ⟨_, k + 1, rfl, by go_num, by omega, by omega, by omega, HE⟩
      case measure => simp [intOf]; omega
    · go_wp2_with fail
      go_ret
      exact ⟨_, rfl, hr, HE.out⟩

/-- The sizes so far. -/
def ZsSt (base g n : Nat) (w : World) (k : Nat) (v : Value) (wr : World) : Prop :=
  Ext [g] w wr ∧ Stm wr base g n ∧ ∃ zs : List Int, zs.length = k ∧ wr.ownsRow w.heap.size 3 1 v k (zs.map (Value.int .i64))
theorem zs_next {base g n k g2 cap2 : Nat} {w wr w7 w8 : World} {o : Obj} {v : Value} {zs : List Int} {x : Int} (hE : Ext [g] w wr) (hE7 : Ext [g] wr w7) (h0 : wr.ownsRow w.heap.size 3 1 v k (zs.map (Value.int .i64))) (hS : Stm w7 base g n) (hb : base ≤ w.heap.size) (hgw : g < w.heap.size)
    (hl : zs.length = k) (hg : (w7.alloc o).grownBy w8 v.ownBlock) (ho : w8.ownsRow w.heap.size 3 1 (.slice (some ⟨g2, 0, none⟩) (k + 1) cap2) (k + 1) (zs.map (Value.int .i64) ++ [.int .i64 x])) :
    ZsSt base g n w (k + 1) (.slice (some ⟨g2, 0, none⟩) (k + 1) cap2) w8 := by
  refine ⟨((hE.trans hE7).alloc _).grown hg (fun q hq => .inr (own_base h0 q hq)), ?_, zs ++ [x], by simp [hl], by simpa using ho⟩
  refine (hS.alloc o).ext (S := v.ownBlock.toList) ((Ext.refl _ _).grown hg (fun q hq => .inl (by simp [hq]))) (fun hm => ?_) (fun y hy => ?_)
  · have := own_base h0 g (by simpa using hm); omega
  · have := own_base h0 y (by simpa using hy); omega
/-- The slice's block can be written. -/
theorem own_in {w : World} {B n cap b : Nat} {xs : List Int} (h : w.ownsRow B 3 1 (.slice (some ⟨b, 0, none⟩) n cap) n (xs.map (.int .i64))) : InB w b xs := (InB.own h).1
/-- The sizes as they are read. -/
def ZsR (base g n : Nat) (w : World) (v : Value) (wr : World) : Prop :=
  Ext [g] w wr ∧ Stm wr base g n ∧ ∃ (A : Option Addr) (cap k : Nat) (zs : List Int), v = .slice A k cap ∧ zs.length = k ∧ k ≤ 7 ∧ RdI wr A zs ∧ ∀ a, A = some a → w.heap.size ≤ a.block ∧ a.block < wr.heap.size
end Go.Proofs.Ytedabpldigcffaa
