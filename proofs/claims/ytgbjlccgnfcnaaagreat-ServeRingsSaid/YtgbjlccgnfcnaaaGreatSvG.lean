/- Rows of bytes: what is kept while they grow; low, Code, Number (the walk). -/
import Derived.Test.YtgbjlccgnfcnaaaGreatSvF
namespace Go.Proofs.YtgbjlccgnfcnaaaGreat
open Go.RowKit
set_option linter.unusedSimpArgs false
set_option linter.unusedVariables false

/-- The values are bytes. -/
def U8s (xs : List Value) : Prop := ∀ x ∈ xs, ∃ k : Int, x = .int .u8 k ∧ 0 ≤ k ∧ k < 256
theorem U8s.one {xs : List Value} (h : U8s xs) : ∀ u ∈ xs, u.oneCell' = true := fun u hu => by
  obtain ⟨k, rfl, _⟩ := h u hu
  rfl
theorem U8s.append {xs ys : List Value} (h : U8s xs) (k : U8s ys) : U8s (xs ++ ys) := fun x hx => by
  rcases List.mem_append.1 hx with h1 | h1
  · exact h x h1
  · exact k x h1
/-- v is a row of n bytes of the call's own. -/
def ByR (w : World) (base : Nat) (v : Value) (n : Nat) : Prop := ∃ xs, w.ownsRow base 5 1 v n xs ∧ U8s xs
/-- Block g begins with n bytes. -/
def RdU (w : World) (g n : Nat) : Prop := ∃ xs : List Value, xs.length = n ∧ U8s xs ∧ ∀ (j : Nat) (u : Value), xs[j]? = some u → w.cell? ⟨g, j, none⟩ = some u
/-- All blocks below base are kept, and all others but those of G and rows of bytes. -/
structure Kp (base : Nat) (G : List Nat) (w w' : World) : Prop where
  os : w'.os = w.os
  tape : w'.tape = w.tape
  output : w'.output = w.output
  size : w.heap.size ≤ w'.heap.size
  block : ∀ k, k < w.heap.size → k ∉ G → (base ≤ k → ∀ C, ¬Blk w k 5 C) → w'.heap[k]? = w.heap[k]?
theorem Kp.refl (base : Nat) (G : List Nat) (w : World) : Kp base G w w := ⟨rfl, rfl, rfl, Nat.le_refl _, fun _ _ _ _ => rfl⟩
theorem Kp.trans {base : Nat} {G : List Nat} {a b c : World} (h : Kp base G a b) (k : Kp base G b c) : Kp base G a c :=
  ⟨k.os.trans h.os, k.tape.trans h.tape, k.output.trans h.output, Nat.le_trans h.size k.size, fun i hi hn hb => by
    have e := h.block i hi hn hb
    exact (k.block i (Nat.lt_of_lt_of_le hi h.size) hn (fun hbi C hC => hb hbi C (by unfold Blk at hC ⊢; rw [← e]; exact hC))).trans e⟩
theorem Kp.of_ext {base : Nat} {G S : List Nat} {w w' : World} (h : Ext S w w') (hS : ∀ x ∈ S, x ∈ G) : Kp base G w w' := ⟨h.os, h.tape, h.output, h.size, fun k hk hn _ => h.block k hk (fun hm => hn (hS k hm))⟩
theorem Kp.mono {base : Nat} {G G' : List Nat} {w w' : World} (h : Kp base G w w') (hS : ∀ x ∈ G, x ∈ G') : Kp base G' w w' := ⟨h.os, h.tape, h.output, h.size, fun k hk hn hb => h.block k hk (fun hm => hn (hS k hm)) hb⟩
theorem Kp.low {base b' : Nat} {G : List Nat} {w w' : World} (h : Kp base G w w') (hb : b' ≤ base) : Kp b' G w w' := ⟨h.os, h.tape, h.output, h.size, fun k hk hn hx => h.block k hk hn (fun hbk => hx (Nat.le_trans hb hbk))⟩
theorem Kp.blk {base : Nat} {G : List Nat} {w w' : World} {g : Nat} {t : TypeId} {C : Array Value} (h : Kp base G w w') (hg : Blk w g t C) (hG : g ∉ G) (ht : t ≠ 5) : Blk w' g t C :=
  (h.block g hg.lt hG (fun _ D hD => ht (Blk.type hg hD))).trans hg
theorem Kp.ext {base : Nat} {G S : List Nat} {w0 w w' : World} (h : Kp base G w w') (hE : Ext S w0 w) (hb : w0.heap.size ≤ base) (hG : ∀ x ∈ G, x ∈ S ∨ w0.heap.size ≤ x) : Ext S w0 w' :=
  ⟨h.os.trans hE.os, h.tape.trans hE.tape, h.output.trans hE.output, Nat.le_trans hE.size h.size, fun k hk hn =>
    (h.block k (Nat.lt_of_lt_of_le hk hE.size) (fun hm => by rcases hG k hm with h1 | h1; exact hn h1; omega) (fun hbk => by omega)).trans (hE.block k hk hn)⟩
theorem Kp.below {base : Nat} {w w' : World} (h : Kp base [] w w') (hb : w.heap.size ≤ base) : Ext [] w w' := h.ext (Ext.refl _ _) hb (by simp)
theorem ByR.base {w : World} {base n : Nat} {v : Value} (h : ByR w base v n) : ∀ k, v.ownBlock = some k → base ≤ k := by
  obtain ⟨xs, h1, _⟩ := h; exact own_base h1
theorem ByR.form {w : World} {base n : Nat} {v : Value} (h : ByR w base v n) : ∃ A cap, v = .slice A n cap ∧ n ≤ cap ∧ (0 < n → ∃ g, A = some ⟨g, 0, none⟩ ∧ base ≤ g ∧ g < w.heap.size) := by
  obtain ⟨xs, h1, _⟩ := h; exact own_form h1
theorem ByR.low {w : World} {base b' n : Nat} {v : Value} (h : ByR w base v n) (hb : b' ≤ base) : ByR w b' v n := by
  obtain ⟨xs, h1, h2⟩ := h; exact ⟨xs, own_low h1 hb, h2⟩
theorem ByR.ext {S : List Nat} {w w' : World} {base n : Nat} {v : Value} (h : ByR w base v n) (hE : Ext S w w') (hS : ∀ k, v.ownBlock = some k → k ∉ S) : ByR w' base v n := by
  obtain ⟨xs, h1, h2⟩ := h; exact ⟨xs, own_ext h1 hE hS, h2⟩
theorem ByR.nil (w : World) (base : Nat) : ByR w base (.slice none 0 0) 0 := ⟨[], ⟨rfl, .inl ⟨rfl, rfl⟩⟩, fun x hx => by cases hx⟩
theorem ByR.rd {w : World} {base n g cap : Nat} (h : ByR w base (.slice (some ⟨g, 0, none⟩) n cap) n) : RdU w g n := by
  obtain ⟨xs, h1, h2⟩ := h
  exact ⟨xs, by have := h1.1; simpa using this, h2, fun j u hu => row_cells h1 j u hu⟩
theorem RdU.ext {S : List Nat} {w w' : World} {g n : Nat} (h : RdU w g n) (hE : Ext S w w') (hg : g ∉ S) : RdU w' g n := by
  obtain ⟨xs, h1, h2, h3⟩ := h
  exact ⟨xs, h1, h2, fun j u hu => hE.held (h3 j u hu) hg⟩
theorem RdU.blk {w : World} {g n : Nat} {t : TypeId} {C : Array Value} (h : Blk w g t C) (hn : C.toList.length = n) (hu : U8s C.toList) : RdU w g n :=
  ⟨C.toList, hn, hu, fun j u hj => by rw [h.cell]; simpa using hj⟩
/-- A block of bytes is a row of one's own. -/
theorem ByR.blk {w : World} {g n base : Nat} {C : Array Value} (h : Blk w g 5 C) (hn : C.size = n) (hu : U8s C.toList) (hb : base ≤ g) (hm : n ≤ 100000) : ByR w base (.slice (some ⟨g, 0, none⟩) n n) n := by
  subst hn
  refine ⟨C.toList, ⟨by simp, .inr ⟨g, C.size, C, rfl, hb, h, Nat.le_refl _, by unfold maxLen; omega, by simp, ?_⟩⟩, hu⟩
  rw [Nat.mul_one]
  exact List.take_length
theorem u8Info : ∃ i0 : TypeInfo, (Tryz.prog).info? 5 = some i0 ∧ i0.zero = some (.int .u8 0) ∧ i0.size = 1 ∧ i0.bytes = 1 :=
  info_parts (show ((Tryz.prog).info? 5).map (fun i => (i.zero, i.size, i.bytes)) = some (some (.int .u8 0), 1, 1) by kernel_rfl)
theorem run_by (w : World) (t ty : TypeId) (ht : (Tryz.prog).underlying t = some (.slice 5)) (base : Nat) (v : Value) (n : Nat) (hv : ByR w base v n) (g m c : Nat) (hr : RdU w g m) (hm : 0 < m) (hnm : n + m ≤ 1000000) (hb : base ≤ w.heap.size) :
    ∃ g' cap w', (Builtin.append_ #[t, t] ty #[v, .slice (some ⟨g, 0, none⟩) m c]).run Tryz.prog w = .ok (.slice (some ⟨g', 0, none⟩) (n + m) cap) w' ∧ ByR w' base (.slice (some ⟨g', 0, none⟩) (n + m) cap) (n + m) ∧ Kp base [] w w' ∧ g' < w'.heap.size ∧ base ≤ g' ∧ (v.ownBlock = some g' ∨ g' = w.heap.size) := by
  obtain ⟨i0, hi0, hz0, hz1, hz2⟩ := u8Info
  obtain ⟨xs, h1, h2⟩ := hv
  obtain ⟨ys, k1, k2, k3⟩ := hr
  obtain ⟨g', cap, w', r1, r2, r3, r4, r5⟩ := run_append_lies (P := Tryz.prog) w t ty base 5 i0 _ 1 1 ht hi0 hz0 hz1 hz2 rfl (by decide) v n xs h1 ⟨g, 0, none⟩ m c ys (by rw [k1]; omega) (fun j u hu => by rw [Addr.add_mk, Nat.zero_add]; exact k3 j u hu) k2.one hm (by unfold maxLen; omega) (by omega) hb _ rfl
  refine ⟨g', cap, w', r1, ⟨_, r2, h2.append k2⟩, ⟨r3.os, r3.tape, r3.output, r3.size, fun k hk _ hB => ?_⟩, r5, own_base r2 g' rfl, r4⟩
  refine r3.block k hk (fun he => ?_)
  obtain ⟨C, hC⟩ := own_blk h1 he.symm
  exact hB (own_base h1 k he.symm) C hC
/-- An append of bytes, for the walk. -/
theorem wpList_by {w : World} {ops : Array Oper} {rest : List Oper} {o : Oper} {a : Act} {Q : Exit → Act → World → Prop} (hgd : o.guard = none) (s x : Operand) (t : TypeId)
    (ho : o.op = .call { callee := .builtin .append, args := #[s, x], argTypes := #[t, t] }) (ht : (Tryz.prog).underlying t = some (.slice 5)) (base : Nat) (v : Value) (n : Nat) (hs : a.eval s = v) (hv : ByR w base v n)
    (g m c : Nat) (hx : a.eval x = .slice (some ⟨g, 0, none⟩) m c) (hr : RdU w g m) (hm : 0 < m) (hnm : n + m ≤ 1000000) (hb : base ≤ w.heap.size)
    (h : ∀ g' cap w', ByR w' base (.slice (some ⟨g', 0, none⟩) (n + m) cap) (n + m) → Kp base [] w w' → g' < w'.heap.size → base ≤ g' → wpList Tryz.prog ops Q rest (a.put o.dst (.slice (some ⟨g', 0, none⟩) (n + m) cap)) w') :
    wpList Tryz.prog ops Q (o :: rest) a w := by
  refine wpList_plain hgd fun K hK => ?_
  obtain ⟨g', cap, w', hr2, h2, h3, h4, h5, _⟩ := run_by w t o.type ht base v n hv g m c hr hm hnm hb
  unfold Oper.wp execOp
  simp only [ho, resolve, invoke, builtin, Sem.run_bind, Sem.run_pure, Result.andThen_ok, List.map_toArray, List.map_cons, List.map_nil, hs, hx, hr2]
  exact hK _ _ (h g' cap w' h2 h3 h4 h5)
theorem u8_wrap (n : Int) : 0 ≤ IntKind.u8.wrap n ∧ IntKind.u8.wrap n < 256 := by rw [IntKind.wrap_u8]; omega
/-- A new row of bytes. -/
def LowP (m : Nat) (w : World) (e : Ending) (w' : World) : Prop := ∃ g cap, e = .returned (.slice (some ⟨g, 0, none⟩) m cap) ∧ ByR w' w.heap.size (.slice (some ⟨g, 0, none⟩) m cap) m ∧ Ext [] w w' ∧ g < w'.heap.size ∧ w.heap.size ≤ g
set_option maxHeartbeats 1000000 in
set_option maxRecDepth 100000 in
theorem low_any (n : Int) (m : Nat) (hm1 : 1 ≤ m) (hm : m ≤ 8) (w : World) : Calls Tryz.prog 58 #[.int .i64 n, .int .i64 m] w (LowP m w) := by
  go_enter Tryz.func58, Tryz.ntmps58
  go_wp2_with fail
  go_loopw [0, 5, 7] (fun u v i wr => ∃ (k : Nat) (n1 : Int) (y : Value), i = .int .i64 k ∧ u = .int .i64 n1 ∧ y = v ∧ k ≤ m ∧ Hd (ByR wr w.heap.size y k) ∧ Hd (Ext [] w wr)) (fun _ _ i _ => (m - intOf i).toNat)
  case atStart => exact ⟨0, n, _, rfl, rfl, rfl, Nat.zero_le _, hd (ByR.nil _ _), hd (Ext.refl _ _)⟩
  case round =>
    obtain ⟨k, n1, y, rfl, rfl, rfl, hk, HB, HE⟩ := hrel
    rename World => wq
    by_cases hlt : k < m
    · have hwz := HE.o.size
      have hu := u8_wrap n1
      have HU := hd (RdU.blk (Blk.new wq 5 #[.int .u8 (IntKind.u8.wrap n1)]) rfl (fun x hx => by simp at hx; exact ⟨_, hx, hu⟩) : RdU (wq.alloc (.cells #[.int .u8 (IntKind.u8.wrap n1)] 5)) wq.heap.size 1)
      have HY := hd (HB.o.ext ((Ext.refl [] wq).alloc (.cells #[.int .u8 (IntKind.u8.wrap n1)] 5)) (by simp))
      have HE1 := hd (HE.o.alloc (.cells #[.int .u8 (IntKind.u8.wrap n1)] 5))
      clear hu HB HE
      go_wp2_with (
        refine wpList_by rfl _ _ 48 rfl Tryz.underlying48 w.heap.size y k rfl HY.out wq.heap.size 1 1 rfl HU.out (by omega) (by omega) (by simp; omega) ?_
        intro g9 c9 w9 h9 k9 l9 b9
        have HB9 := hd h9
        have HE9 := hd (k9.ext HE1.out (Nat.le_refl _) (by simp))
        clear h9 k9)
      go_roundw
      case rel => exact ⟨k + 1, _, _, by go_num, rfl, rfl, by omega, HB9, HE9⟩
      case measure => simp [intOf]; omega
    · have hkm : k = m := by omega
      subst hkm
      obtain ⟨A, cap, rfl, hc, hg⟩ := HB.o.form
      obtain ⟨g, rfl, hg1, hg2⟩ := hg (by omega)
      go_wp2_with fail
      go_ret
      exact ⟨g, cap, rfl, HB.o, HE.o, hg2, hg1⟩
set_option maxHeartbeats 1000000 in
set_option maxRecDepth 100000 in
theorem code_any (g n cap : Nat) (A : Option Addr) (w : World) (hA : 0 < n → A = some ⟨g, 0, none⟩) (h : 0 < n → RdU w g n) (hn : n ≤ 1000000) :
    Calls Tryz.prog 59 #[.slice A n cap] w fun e w' => (∃ r : Int, e = .returned (.int .i64 r)) ∧ w = w' := by
  have H := hd h
  have HA := hd hA
  have hbnd : ∀ (x : Nat), x < n → g < w.heap.size := fun x hx => by
    obtain ⟨xs, h1, h2, h3⟩ := h (by omega)
    exact World.block_lt_of_cell? w _ (h3 0 _ (List.getElem?_eq_getElem (by omega)))
  have HG := hd hbnd
  clear h hA hbnd
  go_enter Tryz.func59, Tryz.ntmps59
  go_wp2_with fail
  go_loop [3, 8] (fun r i => ∃ (k : Nat) (z : Int), i = .int .i64 k ∧ r = .int .u32 z ∧ k ≤ n) (fun _ i => (n - intOf i).toNat)
  case atStart => exact ⟨0, _, rfl, rfl, Nat.zero_le _⟩
  case round =>
    obtain ⟨k, z, rfl, rfl, hk⟩ := hrel
    by_cases hlt : k < n
    · obtain rfl := HA.o (by omega)
      obtain ⟨x, hx⟩ : ∃ x : Int, w.cell? ⟨g, k, none⟩ = some (.int .u8 x) := by
        obtain ⟨xs, h1, h2, h3⟩ := H.o (by omega)
        have hkx : k < xs.length := by omega
        obtain ⟨y, hy, _⟩ := h2 _ (List.getElem_mem hkx)
        exact ⟨y, by rw [← hy]; exact h3 k _ (List.getElem?_eq_getElem hkx)⟩
      have hgl := HG.o k hlt
      go_wp2_with fail
      go_loop [3, 16] (fun r i => ∃ (j : Nat) (y : Int), i = .int .i64 j ∧ r = .int .u32 y ∧ j ≤ 8) (fun _ i => (8 - intOf i).toNat)
      case atStart => exact ⟨0, _, rfl, rfl, Nat.zero_le _⟩
      case round =>
        obtain ⟨j, y, rfl, rfl, hj⟩ := hrel
        by_cases hj8 : j < 8
        · cases hb : (bits BinOp.and IntKind.u32 y 1 == 1)
          · go_wp2_with fail
            go_round
            case rel => exact ⟨j + 1, _, by go_num, rfl, by omega⟩
            case measure => simp [intOf]; omega
          · go_wp2_with fail
            go_round
            case rel => exact ⟨j + 1, _, by go_num, rfl, by omega⟩
            case measure => simp [intOf]; omega
        · go_wp2_with fail
          go_round
          case rel => exact ⟨k + 1, _, by go_num, rfl, by omega⟩
          case measure => simp [intOf]; omega
    · go_wp2_with fail
      go_ret
      exact ⟨⟨_, rfl⟩, rfl⟩
end Go.Proofs.YtgbjlccgnfcnaaaGreat
