/- slices.Clone, Delete and Insert of instructions: the walks. Condition: the slice's block is code whole. -/
import Derived.Test.YtedabpldigcffaaSpoilA
import Derived.Shelf.Spec.SlicesInsert
namespace Go.Proofs.Ytedabpldigcffaa
open Go.RowKit
set_option linter.unusedSimpArgs false
set_option linter.unusedVariables false

/-- A slice of n instructions, its block code whole; the block is B or a later one. -/
def Cd (w : World) (B : Nat) (v : Value) (n : Nat) : Prop :=
  (v = .slice none 0 0 ∧ n = 0) ∨ ∃ b cap, v = .slice (some ⟨b, 0, none⟩) n cap ∧ n ≤ cap ∧ cap ≤ 9223372036854775807 ∧ CodeB w b cap ∧ B ≤ b

/-- An append whose run is known, as one step of a region that draws. -/
theorem step_append_run {P : Program} {ops : Array Oper} {o : Oper} {a : Act} {w : World} {K : Act → World → Prop} {Q : Exit → Act → World → Prop} {E : Prop}
    (hg : o.guard = none) (d x : Operand) (dT sT : TypeId) (hop : o.op = Op.call { callee := Callee.builtin Builtin.append, args := #[d, x], argTypes := #[dT, sT] })
    (v u : Value) (hd : a.eval d = v) (hx : a.eval x = u) {v' : Value} {w' : World} (hr : (Builtin.append_ #[dT, sT] o.type #[v, u]).run P w = .ok v' w') (hK : K (a.put o.dst v') w') :
    if Region.wanted o (yielded ops a.tmps) = true then Oper.wp P o a w K Q else E := by
  have hw : Region.wanted o (yielded ops a.tmps) = true := by simp [Region.wanted, hg]
  rw [if_pos hw]
  unfold Oper.wp
  simp [execOp, hop, resolve, invoke, builtin, hd, hx, hr, Result.andThen]
  exact hK

def CloneP (w : World) (n : Nat) (e : Ending) (w' : World) : Prop := ∃ v, e = .returned v ∧ Cd w' w.heap.size v n ∧ Ext [] w w'

set_option maxHeartbeats 1000000 in
set_option maxRecDepth 100000 in
theorem clone_code (A : Option Addr) (cap : Nat) (xs : List Ins) (w : World) (h : RdC w A xs) (hl : xs.length ≤ 1000000) :
    Calls Try.prog 50 #[.slice A xs.length cap] w (CloneP w xs.length) := by
  cases A with
  | none =>
    have heq : ∀ W : World, (binOp .eql 41 (.slice none xs.length cap) (.slice none 0 0)).run Try.prog W = .ok (.bool true) W := fun W => Go.Lib.run_eql_slice_nil (P := Try.prog) (w := W) (h := Try.underlying41) ..
    have h0 : xs.length = 0 := by
      rcases h with h | ⟨b, o, he, _⟩
      · rw [h]; rfl
      · cases he
    have H0 := hd h0
    clear h h0
    go_enter Try.func50, Try.ntmps50
    go_wp2_with fail
    go_ret
    exact ⟨_, rfl, .inl ⟨rfl, H0.out⟩, Ext.refl _ _⟩
  | some a =>
    have heq : ∀ W : World, (binOp .eql 41 (.slice (some a) xs.length cap) (.slice none 0 0)).run Try.prog W = .ok (.bool false) W := fun W => Go.Lib.run_eql_slice_nil (P := Try.prog) (w := W) (h := Try.underlying41) ..
    have hnew : CodeB (w.alloc (.cells #[] 64)) w.heap.size 0 := ⟨[], rfl, Blk.new _ _ _⟩
    have hrun : ∃ cap' b w2, (∀ ty, (Builtin.append_ #[41, 41] ty #[.slice (some ⟨w.heap.size, 0, none⟩) 0 0, .slice (some a) xs.length cap]).run Try.prog (w.alloc (.cells #[] 64)) = .ok (.slice (some ⟨b, 0, none⟩) xs.length cap') w2) ∧ xs.length ≤ cap' ∧ cap' ≤ 9223372036854775807 ∧ CodeB w2 b cap' ∧ w.heap.size ≤ b ∧ Ext [] w w2 := by
      rcases h with h | ⟨b, o, he, hc⟩
      · subst h
        obtain ⟨i0, hi0, hz0, hz1, hz2⟩ := info_parts Try.info64
        obtain ⟨xs0, hx0, hB⟩ := hnew
        have hx0' : xs0 = [] := List.eq_nil_of_length_eq_zero hx0
        subst hx0'
        refine ⟨0, _, _, fun ty => run_append_room (P := Try.prog) _ 41 ty 64 i0 Try.underlying41 hi0 w.heap.size 0 0 _ hB a 0 cap [] (by simp) (by simp) (by simp) (by omega) (by simp), by simp, by omega, ⟨[], rfl, ?_⟩, Nat.le_refl _, ?_⟩
        · unfold Blk
          rw [setRow_heap _ _ _ _ _ _ hB]
          simp [Go.Proofs.Ytedabpldigcffaa.codeCells]
        · exact (((Ext.refl [] w).alloc _).step (b := w.alloc (.cells #[] 64)) (T := [w.heap.size]) ⟨rfl, rfl, rfl, by simp [World.setRow], fun i _ hi => setRow_other _ _ i _ (by simpa using hi)⟩ (fun x hx => .inr (by rw [List.mem_singleton.1 hx]; exact Nat.le_refl _)))
      · cases he
        have hcc := RdC.codeCells (.inr ⟨b, o, rfl, hc⟩ : RdC w (some ⟨b, o, none⟩) xs)
        by_cases h0 : xs.length = 0
        · obtain ⟨w2, hr, hC, hE⟩ := append_room_code (n := 0) (m := 0) (cap := 0) (c2 := cap) (b2 := b) (d := o) hnew [] rfl (by simp [Go.Proofs.Ytedabpldigcffaa.codeCells]) (by omega) (by omega)
          rw [h0]
          exact ⟨0, _, w2, hr, by omega, by omega, hC, Nat.le_refl _, ((Ext.refl [] w).alloc _).step hE (fun x hx => .inr (by rw [List.mem_singleton.1 hx]; exact Nat.le_refl _))⟩
        · obtain ⟨cap', w2, hr, h1, h2, hC, hE⟩ := append_grow_code (w := w.alloc (.cells #[] 64)) (n := 0) (m := xs.length) (cap := 0) (c2 := cap) (b2 := b) (d := o) (some ⟨w.heap.size, 0, none⟩) [] xs rfl rfl (.inr ⟨_, _, rfl, by simp [Go.Proofs.Ytedabpldigcffaa.codeCells]⟩)
            (fun j v hv => ((Ext.refl [] w).alloc _).held (hcc j v hv) (by simp)) (by omega) (by omega) (by omega)
          rw [Nat.zero_add] at hr h1
          exact ⟨cap', _, w2, hr, h1, h2, hC, by simp, ((Ext.refl [] w).alloc _).trans hE⟩
    obtain ⟨cap', b, w2, hr, h1, h2, hC, hb, hE⟩ := hrun
    have HX := hd (And.intro h1 (And.intro h2 (And.intro hC (And.intro hb hE))))
    clear h hnew h1 h2 hC hb hE
    go_enter Try.func50, Try.ntmps50
    go_wp2_with (at_builtin; refine Lib.wpList_append_run _ rfl _ _ _ _ rfl _ _ rfl rfl _ _ (hr _) ?_)
    go_ret
    obtain ⟨h1, h2, hC, hb, hE⟩ := HX.out
    exact ⟨_, rfl, .inr ⟨_, _, rfl, h1, h2, hC, hb⟩, hE⟩

/-- The slice, its block code still. -/
def DelP (b cap n : Nat) (w : World) (e : Ending) (w' : World) : Prop := e = .returned (.slice (some ⟨b, 0, none⟩) n cap) ∧ CodeB w' b cap ∧ Ext [b] w w'

set_option maxHeartbeats 1000000 in
set_option maxRecDepth 100000 in
theorem delete_code (b cap k m : Nat) (w : World) (h : CodeB w b cap) (hn : k + 1 + m ≤ cap) (hcap : cap ≤ 9223372036854775807) :
    Calls Try.prog 51 #[.slice (some ⟨b, 0, none⟩) (k + 1 + m) cap, .int .i64 k, .int .i64 ((k : Int) + 1)] w (DelP b cap (k + m) w) := by
  obtain ⟨d, hdd, w2, hr, hC2, hE2⟩ : ∃ d, (if cap = k + 1 then some (⟨b, 0, none⟩ : Addr) else some ⟨b, (k + 1) * 9, none⟩) = some ⟨b, d, none⟩ ∧ ∃ w2, (∀ ty, (Builtin.append_ #[41, 41] ty #[.slice (some ⟨b, 0, none⟩) k cap, .slice (some ⟨b, d, none⟩) m (cap - (k + 1))]).run Try.prog w.drew = .ok (.slice (some ⟨b, 0, none⟩) (k + m) cap) w2) ∧ CodeB w2 b cap ∧ Ext [b] w.drew w2 := by
    have hD : CodeB w.drew b cap := h
    by_cases hc : cap = k + 1
    · have hm0 : m = 0 := by omega
      subst hm0
      obtain ⟨w2, hw2⟩ := append_room_code (n := k) (m := 0) (cap := cap) (c2 := cap - (k + 1)) (b2 := b) (d := 0) hD [] rfl (by simp [Go.Proofs.Ytedabpldigcffaa.codeCells]) (by omega) (by omega)
      exact ⟨0, by simp [hc], w2, hw2⟩
    · obtain ⟨ys, hys, hcs⟩ := hD.cells (k + 1) m (by omega)
      obtain ⟨w2, hw2⟩ := append_room_code (n := k) (m := m) (cap := cap) (c2 := cap - (k + 1)) (b2 := b) (d := (k + 1) * 9) hD ys hys hcs (by omega) (by omega)
      exact ⟨(k + 1) * 9, by simp [hc], w2, hw2⟩
  obtain ⟨w3, hcl, hC3, hE3⟩ := clear_code (n := k + m) (m := 1) (cap := cap - (k + m)) hC2 (by omega) (by omega)
  have HC := hd hC3
  have HE : Hd (Ext [b] w w3) := hd (((Ext.refl [b] w).drew.trans hE2).trans hE3)
  have hne : ¬ cap = k + m := by omega
  have hl1 : k + 1 + m - (k + m) = 1 := by omega
  have hkc : k ≤ cap := by omega
  have hk1 : k + 1 ≤ cap := by omega
  have hkm : k + m ≤ k + 1 + m := by omega
  have hi1 : (0 : Int) ≤ (k : Int) + 1 := by omega
  have hi2 : (k : Int) + 1 ≤ (k : Int) + 1 + (m : Int) := by omega
  clear h hC2 hE2 hC3 hE3
  go_enter Try.func51, Try.ntmps51
  go_wp2_with fail
  go_region_law (refine step_append_run rfl (.tmp 22) (.tmp 25) _ _ rfl _ _ (by simp [Act.eval, Act.put]) (by simp [Act.eval, Act.put]) (hr _) ?_)
  go_wp2
  go_ret
  exact ⟨rfl, HC.out, HE.out⟩
def InsP (b n : Nat) (w : World) (e : Ending) (w' : World) : Prop := ∃ b' cap', e = .returned (.slice (some ⟨b', 0, none⟩) n cap') ∧ n ≤ cap' ∧ cap' ≤ 9223372036854775807 ∧ CodeB w' b' cap' ∧ (b' = b ∨ w.heap.size ≤ b') ∧ Ext [b] w w'

theorem Blk.shape {w : World} {b : Nat} {t : TypeId} {cs : Array Value} (h : Blk w b t cs) : w.shape? b = some (t, cs.size) := by
  unfold Blk at h; simp [World.shape?, h]
set_option maxHeartbeats 1000000 in
set_option maxRecDepth 100000 in
theorem insert_room (b cap k m vb vc : Nat) (x : Ins) (w : World) (h : CodeB w b cap) (hv : Blk w vb 64 (codeCells [x]).toArray) (hvb : vb ≠ b) (hn : k + 1 + m + 1 ≤ cap) (hcap : cap ≤ 9223372036854775807) :
    Calls Try.prog 52 #[.slice (some ⟨b, 0, none⟩) (k + 1 + m) cap, .int .i64 k, .slice (some ⟨vb, 0, none⟩) 1 vc] w (InsP b (k + 1 + m + 1) w) := by
  obtain ⟨i0, hi0, hz0, hz1, hz2⟩ := info_parts Try.info64
  have hc1 : ¬ cap = k := by omega
  have hc2 : ¬ cap = k + 1 := by omega
  have hov : ∀ lb cb, (callFunc 74 #[.slice (some ⟨vb, 0, none⟩) 1 vc, .slice (some ⟨b, (k + 1) * 9, none⟩) lb cb]).run Try.prog w = .ok (.value (.bool false)) w := fun lb cb => by
    obtain ⟨xs, hxs, hB⟩ := h
    rw [run_callFunc_extern Try.func74 (by kernel_rfl) (by kernel_rfl) (by kernel_rfl) (e := Extern.SlicesOverlaps.overlaps #[41, 41] #[4]) (by kernel_rfl),
      Lib.run_overlaps_apart w 41 4 64 Try.underlying41 9 (fun w => by simp [Go.sizeOf, typeInfo, hi0, hz1]) ⟨vb, 0, none⟩ ⟨b, (k + 1) * 9, none⟩ 1 vc lb cb hvb _ _ _ _ hv.shape hB.shape (by simp [codeCells_length]; omega) (hv.frozen 0) (hv.frozen _)]
    rfl
  obtain ⟨ys, hys, hcs⟩ := CodeB.cells (w := w.drew) h k (m + 1) (by omega)
  obtain ⟨w2, hcp1, hC2, hE2⟩ := copy_code (w := w.drew) (c1 := cap - (k + 1)) (c2 := cap - k) (o := k + 1) (k := m + 1) (b2 := b) (d := k * 9) h ys hys hcs 3 (k + 1 + m - k) (k + 1 + m + 1 - k) (by show min _ _ = _; omega) (by omega)
  obtain ⟨w3, hcp2, hC3, hE3⟩ := copy_code (w := w2) (c1 := cap - k) (c2 := vc) (o := k) (k := 1) (b2 := vb) (d := 0) hC2 [x] rfl (fun j v hj => by rw [Nat.zero_add, (hv.drew.ext hE2 (by simpa using hvb)).cell]; simpa using hj) 3 (k + 1 + m + 1 - k) 1 (by show min _ _ = _; omega) (by omega)
  have HC := hd hC3
  have HE : Hd (Ext [b] w w3) := hd (((Ext.refl [b] w).drew.trans hE2).trans hE3)
  clear h hv hC2 hE2 hC3 hE3 hcs
  have hi1 : (0 : Int) ≤ (k : Int) + 1 := by omega
  have hi2 : (k : Int) + 1 ≤ (k : Int) + 1 + (m : Int) + 1 := by omega
  have hi3 : (k : Int) ≤ (k : Int) + 1 + (m : Int) + 1 := by omega
  have hk3 : k ≤ k + 1 + m + 1 := by omega
  have hk4 : k + 1 ≤ k + 1 + m + 1 := by omega
  have hw1 : IntKind.i64.wrap ((k : Int) + 1) = (k : Int) + 1 := by rw [IntKind.wrap_i64]; omega
  have htn : ((k : Int) + 1).toNat = k + 1 := by omega
  go_enter Try.func52, Try.ntmps52
  go_wp2_with (simp only [hov])
  go_region_law (refine step_copy_runI rfl (.tmp 73) (.tmp 76) _ _ rfl _ _ (by simp [Act.eval, Act.put]) (by simp [Act.eval, Act.put]) hcp1 ?_)
  go_wp2_with (refine wpList_copy_runI _ rfl (.tmp 80) (.tmp 81) _ _ rfl _ _ rfl rfl hcp2 ?_)
  go_ret
  exact ⟨b, cap, rfl, hn, hcap, HC.out, .inl rfl, HE.out⟩

set_option maxHeartbeats 1000000 in
set_option maxRecDepth 100000 in
theorem insert_grow (b k m vb vc : Nat) (x : Ins) (w : World) (h : CodeB w b (k + 1 + m)) (hv : Blk w vb 64 (codeCells [x]).toArray) (hvb : vb ≠ b) (hcap : k + 1 + m ≤ 900000) :
    Calls Try.prog 52 #[.slice (some ⟨b, 0, none⟩) (k + 1 + m) (k + 1 + m), .int .i64 k, .slice (some ⟨vb, 0, none⟩) 1 vc] w (InsP b (k + 1 + m + 1) w) := by
  have hbl := h.lt
  have hvl := hv.lt
  obtain ⟨ys0, hys0, hcs0⟩ := CodeB.cells h 0 k (by omega)
  obtain ⟨cap', w2, hrz, hcap1, hcap2, hC2, hE2⟩ := append_make_code (cap := k + 1 + m) (b := b) (o := 0) ys0 hys0 (fun j v hj => by simpa using hcs0 j v hj) (m := m + 2) (by omega) (by omega) (by omega)
  rw [show ((m + 2 : Nat) : Int) = (k : Int) + 1 + (m : Int) + 1 - (k : Int) by omega] at hrz
  obtain ⟨w3, hcpA, hC3, hE3⟩ := copy_code (w := w2) (c1 := cap' - k) (c2 := vc) (o := k) (k := 1) (b2 := vb) (d := 0) hC2 [x] rfl (fun j v hj => by rw [Nat.zero_add, (hv.ext hE2 (by simp)).cell]; simpa using hj) 3 (m + 2) 1 (by show min _ _ = _; omega) (by omega)
  obtain ⟨ys, hys, hcs⟩ := CodeB.cells h k (m + 1) (by omega)
  have hE23 : Ext [w.heap.size] w w3 := (hE2.nil).trans hE3
  obtain ⟨w4, hcpB, hC4, hE4⟩ := copy_code (w := w3.drew) (c1 := cap' - (k + 1)) (c2 := k + 1 + m - k) (o := k + 1) (k := m + 1) (b2 := b) (d := k * 9) hC3 ys hys (fun j v hj => (hE23.drew).held (hcs j v hj) (by simp; omega)) 3 (k + (m + 2) - (k + 1)) (k + 1 + m - k) (by show min _ _ = _; omega) (by omega)
  have HC := hd hC4
  have HE : Hd (Ext [b] w w4) := hd ((hE23.drew.trans hE4).mono (fun i hi => .inr (by rw [List.mem_singleton.1 hi]; exact Nat.le_refl _)))
  have HCAP := hd hcap1
  clear h hv hC2 hE2 hC3 hE3 hcs hcs0 hE23 hC4 hE4
  have hc0 : ¬ k + 1 + m = k := by omega
  have hc1 : ¬ cap' = k := by omega
  have hc2 : ¬ cap' = k + 1 := by omega
  have hc3 : ¬ k + 1 + m + 1 ≤ k + 1 + m := by omega
  have hi1 : (0 : Int) ≤ (k : Int) + 1 := by omega
  have hi2 : (k : Int) + 1 ≤ (k : Int) + ((m : Int) + 2) := by omega
  have hi3 : (k : Int) ≤ (k : Int) + 1 + (m : Int) := by omega
  have hk3 : k ≤ k + 1 + m := by omega
  have hk4 : k + 1 ≤ k + (m + 2) := by omega
  have hw1 : IntKind.i64.wrap ((k : Int) + 1) = (k : Int) + 1 := by rw [IntKind.wrap_i64]; omega
  have htn : ((k : Int) + 1).toNat = k + 1 := by omega
  go_enter Try.func52, Try.ntmps52
  go_wp2_with (at_builtin; refine Lib.wpList_append_run _ rfl _ _ _ _ rfl _ _ rfl rfl _ _ (hrz _) ?_)
  go_wp2_with (refine wpList_copy_runI _ rfl (.tmp 43) (.tmp 44) _ _ rfl _ _ rfl rfl hcpA ?_)
  go_region_law (refine step_copy_runI rfl (.tmp 50) (.tmp 53) _ _ rfl _ _ (by simp [Act.eval, Act.put]) (by simp [Act.eval, Act.put]) hcpB ?_)
  go_wp2
  go_ret
  exact ⟨w.heap.size, cap', congrArg (fun n => Ending.returned (Value.slice (some ⟨w.heap.size, 0, none⟩) n cap')) (show k + (m + 2) = k + 1 + m + 1 by omega), by omega, hcap2, HC.out, .inr (Nat.le_refl _), HE.out⟩
end Go.Proofs.Ytedabpldigcffaa
