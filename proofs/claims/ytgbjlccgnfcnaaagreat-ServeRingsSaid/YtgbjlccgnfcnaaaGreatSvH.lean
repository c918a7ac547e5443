/- Package codec: Number and List; a model's bytes (the walk). -/
import Derived.Test.YtgbjlccgnfcnaaaGreatSvG
namespace Go.Proofs.YtgbjlccgnfcnaaaGreat
open Go.RowKit
set_option linter.unusedSimpArgs false
set_option linter.unusedVariables false

/-- The writer's block g holds a row of at most m bytes. -/
def WrIn (w : World) (base g m : Nat) : Prop := ∃ v n, Blk w g 118 #[v] ∧ ByR w base v n ∧ n ≤ m
theorem WrIn.ext {S : List Nat} {w w' : World} {base g m : Nat} (h : WrIn w base g m) (hE : Ext S w w') (hS : ∀ x ∈ S, w.heap.size ≤ x) : WrIn w' base g m := by
  obtain ⟨v, n, h1, h2, h3⟩ := h
  refine ⟨v, n, h1.ext hE (fun hm => by have := hS g hm; have := h1.lt; omega), h2.ext hE (fun k hk hm => ?_), h3⟩
  obtain ⟨A, cap, rfl, _, hg⟩ := h2.form
  have := hS k hm
  obtain ⟨xs, h4, _⟩ := h2
  obtain ⟨C, hC⟩ := own_blk h4 hk
  have := hC.lt
  omega
theorem ByR.far {w : World} {base n : Nat} {v : Value} (h : ByR w base v n) {g : Nat} {t : TypeId} {C : Array Value} (hg : Blk w g t C) (ht : t ≠ 5) (i : Nat) (u : Value) : ByR (w.setCell ⟨g, i, none⟩ u) base v n := by
  refine h.ext (S := [g]) ((Ext.refl _ _).setCell (.inl (by simp)) _) (fun k hk hm => ?_)
  obtain ⟨xs, h4, _⟩ := h
  obtain ⟨D, hD⟩ := own_blk h4 hk
  have : k = g := by simpa using hm
  subst this
  exact ht (Blk.type hg hD)
theorem Kp.set (base g i : Nat) (w : World) (u : Value) : Kp base [g] w (w.setCell ⟨g, i, none⟩ u) := Kp.of_ext ((Ext.refl [g] w).setCell (.inl (by simp)) u) (by simp)
theorem Kp.alloc (base : Nat) (G : List Nat) (w : World) (o : Obj) : Kp base G w (w.alloc o) := Kp.of_ext ((Ext.refl [] w).alloc o) (by simp)
theorem bits_u8 (op : BinOp) (x y : Int) : 0 ≤ bits op .u8 x y ∧ bits op .u8 x y < 256 := by
  unfold bits
  rw [IntKind.wrap_u8]
  omega
/-- What a call that writes to the writer leaves. -/
def NumP (base g m : Nat) (w : World) (e : Ending) (w' : World) : Prop := e = .returned (.tuple #[]) ∧ WrIn w' base g m ∧ Kp base [g] w w'
set_option maxHeartbeats 1000000 in
set_option maxRecDepth 100000 in
theorem number_any (base g m : Nat) (k : Int) (hk : -1000 ≤ k ∧ k ≤ 1000) (w : World) (h : WrIn w base g m) (hm : m ≤ 100000) (hb : base ≤ w.heap.size) :
    Calls Tryz.prog 91 #[.pointer (some ⟨g, 0, none⟩), .int .i64 k] w (NumP base g (m + 2) w) := by
  obtain ⟨v, n, hB, hR, hn⟩ := h
  have HB := hd hB
  have HR := hd hR
  clear hB hR
  obtain ⟨hk0, hk1⟩ := hk
  by_cases hneg : k < 0
  all_goals
    go_enter Tryz.func91, Tryz.ntmps91
    go_wp2_with fail
    go_loopw [4] (fun u wr => ∃ (U : Int) (j n1 : Nat) (v1 : Value), u = .int .u64 U ∧ 0 ≤ U ∧ U ≤ 2001 ∧ j ≤ 1 ∧ (1 ≤ j → U < 128) ∧ n1 ≤ m + j ∧ Hd (Blk wr g 118 #[v1]) ∧ Hd (ByR wr base v1 n1) ∧ Hd (Kp base [g] w wr)) (fun u _ => (intOf u).toNat)
    case atStart =>
      refine ⟨_, 0, n, v, rfl, ?_, ?_, by omega, by omega, by omega, HB, HR, hd (Kp.refl _ _ _)⟩
      all_goals first | omega | (simp only [IntKind.wrap_u64, wrap64]; omega)
    case round =>
      obtain ⟨U, j, n1, v1, rfl, hU0, hU1, hj, hj1, hn1, HB1, HR1, HK1⟩ := hrel
      rename World => wq
      have q1 := HB1.o.cell
      have q1l := HB1.o.lt
      have q1f := HB1.o.frozen
      have hwz := HK1.o.size
      by_cases hU : 128 ≤ U
      · have hj0 : j = 0 := by omega
        subst hj0
        go_wp2_with (
          refine wpList_by rfl _ _ 118 rfl Tryz.underlying118 base v1 n1 rfl ?h1 wq.heap.size 1 1 rfl ?h2 (by omega) (by omega) (by simp; omega) ?_
          case h1 => exact HR1.o.ext ((Ext.refl [] wq).alloc _) (by simp)
          case h2 => exact RdU.blk (Blk.new wq 5 _) rfl (fun x hx => by simp at hx; exact ⟨_, hx, by first | exact u8_wrap _ | exact bits_u8 _ _ _ | (constructor <;> omega)⟩)
          intro g9 c9 w9 h9 k9 l9 b9
          have HB9 := hd (k9.blk (HB1.o.alloc _) (by simp) (by decide))
          have HR9 := hd (h9.far HB9.o (by decide) 0 (.slice (some ⟨g9, 0, none⟩) (n1 + 1) c9))
          have HK9 := hd ((HK1.o.trans ((Kp.alloc base [g] wq _).trans (k9.mono (by simp)))).trans (Kp.set base g 0 w9 (.slice (some ⟨g9, 0, none⟩) (n1 + 1) c9)))
          have q2 := HB9.o.cell
          have q2l := HB9.o.lt
          have q2f := HB9.o.frozen
          clear h9 k9)
        go_roundw
        case rel => exact ⟨U / 128, 1, n1 + 1, _, rfl, by omega, by omega, by omega, by omega, by omega, hd (HB9.o.set_' 0 _ _ rfl), HR9, HK9⟩
        case measure => simp [intOf]; omega
      · go_wp2_with (
          refine wpList_by rfl _ _ 118 rfl Tryz.underlying118 base v1 n1 rfl ?h1 wq.heap.size 1 1 rfl ?h2 (by omega) (by omega) (by simp; omega) ?_
          case h1 => exact HR1.o.ext ((Ext.refl [] wq).alloc _) (by simp)
          case h2 => exact RdU.blk (Blk.new wq 5 _) rfl (fun x hx => by simp at hx; exact ⟨_, hx, by first | exact u8_wrap _ | exact bits_u8 _ _ _ | (constructor <;> omega)⟩)
          intro g9 c9 w9 h9 k9 l9 b9
          have HB9 := hd (k9.blk (HB1.o.alloc _) (by simp) (by decide))
          have HR9 := hd (h9.far HB9.o (by decide) 0 (.slice (some ⟨g9, 0, none⟩) (n1 + 1) c9))
          have HK9 := hd ((HK1.o.trans ((Kp.alloc base [g] wq _).trans (k9.mono (by simp)))).trans (Kp.set base g 0 w9 (.slice (some ⟨g9, 0, none⟩) (n1 + 1) c9)))
          have q2 := HB9.o.cell
          have q2l := HB9.o.lt
          have q2f := HB9.o.frozen
          clear h9 k9)
        refine bodyPost_ret (results_none rfl _ _ _) rfl ?_
        exact ⟨rfl, ⟨_, n1 + 1, HB9.o.set_' 0 _ _ rfl, HR9.o, by omega⟩, HK9.o⟩
end Go.Proofs.YtgbjlccgnfcnaaaGreat
