/- slices.SortStableFunc by the lives' beginnings, at few numbers: the walk. Condition: at most 19 numbers. -/
import Derived.Test.YtedabpldigcffaaRegC
import Derived.Sort.LotA
import Derived.IntWalk
import Derived.BigRegion
namespace Go.Proofs.Ytedabpldigcffaa
open Go.RowKit
set_option linter.unusedSimpArgs false
set_option linter.unusedVariables false
attribute [local irreducible] relAt

/-- A block that is just the numbers d. -/
def NB (w : World) (G : Nat) (d : Array Nat) : Prop := Blk w G 3 (d.map fun (x : Nat) => Value.int .i64 (x : Int))
theorem NB.ext {S : List Nat} {w w' : World} {G : Nat} {d : Array Nat} (h : NB w G d) (hE : Ext S w w') (hS : G ∉ S) : NB w' G d := Blk.ext h hE hS
theorem NB.lt {w : World} {G : Nat} {d : Array Nat} (h : NB w G d) : G < w.heap.size := Blk.lt h
theorem NB.cell {w : World} {G : Nat} {d : Array Nat} (h : NB w G d) (i : Nat) (hi : i < d.size) : w.cell? ⟨G, i, none⟩ = some (.int .i64 (d[i]! : Nat)) := by
  rw [Blk.cell h]
  simp [hi]
theorem NB.frozen {w : World} {G : Nat} {d : Array Nat} (h : NB w G d) (i : Nat) : w.frozen? ⟨G, i, none⟩ = false := Blk.frozen h i
theorem NB.set {w : World} {G : Nat} {d : Array Nat} (h : NB w G d) (i : Nat) (x : Nat) : NB (w.setCell ⟨G, i, none⟩ (.int .i64 (x : Int))) G (d.setIfInBounds i x) := by
  have := Blk.set_ h i (.int .i64 (x : Int))
  unfold NB
  rw [Array.map_setIfInBounds]
  exact this
theorem NB.swap {w : World} {G : Nat} {d : Array Nat} (h : NB w G d) (i j : Nat) : NB ((w.setCell ⟨G, i, none⟩ (.int .i64 (d[j]! : Nat))).setCell ⟨G, j, none⟩ (.int .i64 (d[i]! : Nat))) G (Sort.swp d i j) :=
  (h.set i d[j]!).set j d[i]!

/-- By their beginnings. -/
def byFr (ls : List Lf) (a b : Nat) : Bool := decide ((lf ls a).fr < (lf ls b).fr)
/-- The lives lie behind a variable. -/
def LsV (w : World) (T : Nat) (ls : List Lf) (n : Nat) : Prop := ∃ A cap, Blk w T 48 #[.slice A n cap] ∧ RdL w A ls ∧ ls.length = n
theorem LsV.ext {S : List Nat} {w w' : World} {T n : Nat} {ls : List Lf} (h : LsV w T ls n) (hE : Ext S w w') (hT : T ∉ S) (hS : ∀ A cap, Blk w T 48 #[.slice A n cap] → ∀ a, A = some a → a.block ∉ S) : LsV w' T ls n := by
  obtain ⟨A, cap, hB, hr, hl⟩ := h
  exact ⟨A, cap, hB.ext hE hT, hr.ext hE (hS A cap hB), hl⟩

set_option maxHeartbeats 1000000 in
set_option maxRecDepth 100000 in
theorem cmp_any (T n a b : Nat) (ls : List Lf) (w : World) (h : LsV w T ls n) (hs : ∀ x ∈ ls, Small x) (ha : a < n) (hb : b < n) (hn : n ≤ 1000) :
    Calls Try.prog 60 #[.int .i64 a, .int .i64 b, .pointer (some ⟨T, 0, none⟩)] w fun e w' => e = .returned (.int .i64 ((lf ls a).fr - (lf ls b).fr)) ∧ Ext [] w w' := by
  obtain ⟨A, cap, hB, hr, hl⟩ := h
  obtain ⟨b1, o1, rfl, hb1, a0, a1, a2, a3⟩ := hr.four (k := a) (by omega)
  obtain ⟨b2, o2, hbo, hb2, c0, c1, c2, c3⟩ := hr.four (k := b) (by omega)
  cases hbo
  have sa : Small (lf ls a) := hs _ (by unfold lf; rw [List.getD_eq_getElem?_getD, List.getElem?_eq_getElem (by omega)]; exact List.getElem_mem _)
  have sb : Small (lf ls b) := hs _ (by unfold lf; rw [List.getD_eq_getElem?_getD, List.getElem?_eq_getElem (by omega)]; exact List.getElem_mem _)
  obtain ⟨sa0, sa1, _, _⟩ := sa
  obtain ⟨sb0, sb1, _, _⟩ := sb
  generalize (lf ls a).fr = x at *
  generalize (lf ls b).fr = y at *
  have q0 := hB.cell 0
  have ql := hB.lt
  clear hB hr hl hs a0 a2 a3 c0 c2 c3
  go_enter Try.func60, Try.ntmps60
  go_wp2_with fail
  go_quiet (fail)
  go_wp2_with fail
  go_ret
  exact ⟨rfl, (Ext.refl _ _).drewN _⟩
theorem inner_go {lt : Nat → Nat → Bool} (k : Nat) (d : Array Nat) (hl : lt d[k + 1]! d[k]! = true) : Sort.insInner lt 0 (k + 1) d = Sort.insInner lt 0 k (Sort.swp d (k + 1) k) := by
  rw [Sort.insInner]; simp [hl]
theorem inner_stop {lt : Nat → Nat → Bool} (k : Nat) (d : Array Nat) (hl : lt d[k + 1]! d[k]! = false) : Sort.insInner lt 0 (k + 1) d = d := by
  rw [Sort.insInner]; simp [hl]
theorem inner_zero {lt : Nat → Nat → Bool} (d : Array Nat) : Sort.insInner lt 0 0 d = d := by rw [Sort.insInner]
theorem outer_go {lt : Nat → Nat → Bool} (b i : Nat) (d : Array Nat) (h : i < b) : Sort.insOuter lt 0 b i d = Sort.insOuter lt 0 b (i + 1) (Sort.insInner lt 0 i d) := by rw [Sort.insOuter, if_pos h]
theorem outer_stop {lt : Nat → Nat → Bool} (b i : Nat) (d : Array Nat) (h : ¬ i < b) : Sort.insOuter lt 0 b i d = d := by rw [Sort.insOuter, if_neg h]
theorem get_set (a : Array Nat) (i k x : Nat) : (a.setIfInBounds i x)[k]! = if i = k ∧ i < a.size then x else a[k]! := by
  simp only [Array.getElem!_eq_getD, Array.getD_eq_getD_getElem?, Array.getElem?_setIfInBounds]
  by_cases h : i = k
  · subst h
    by_cases h2 : i < a.size
    · simp [h2]
    · simp [h2]
  · simp [h]
theorem swp_get {d : Array Nat} {i j k : Nat} (hi : i < d.size) (hj : j < d.size) (hk : k < d.size) : ∃ q, q < d.size ∧ (Sort.swp d i j)[k]! = d[q]! := by
  unfold Sort.swp
  rw [get_set, get_set]
  split
  · exact ⟨i, hi, rfl⟩
  · split
    · exact ⟨j, hj, rfl⟩
    · exact ⟨k, hk, rfl⟩
theorem swp_size (d : Array Nat) (i j : Nat) : (Sort.swp d i j).size = d.size := by simp [Sort.swp]
/-- Where the sort stands. -/
structure InsSt (w : World) (G n m : Nat) (dk : Array Nat) (wr : World) : Prop where
  size : dk.size = m
  bd : ∀ i, i < m → dk[i]! < n
  nb : NB wr G dk
  ext : Ext [G] w wr

set_option maxHeartbeats 4000000 in
set_option maxRecDepth 100000 in
theorem ins_any (G T n m cap : Nat) (ls : List Lf) (d : Array Nat) (w : World) (h : InsSt w G n m d w) (hls : ∀ W, Ext [G] w W → LsV W T ls n) (hs : ∀ x ∈ ls, Small x) (hn : n ≤ 1000) (hm : m ≤ 1000) :
    Calls Try.prog 100 #[.slice (some ⟨G, 0, none⟩) m cap, .int .i64 0, .int .i64 m, .func (.func 60) #[] #[.pointer (some ⟨T, 0, none⟩)]] w fun e w' => e = .returned (.tuple #[]) ∧ InsSt w G n m (Sort.insertionSort (byFr ls) d 0 m) w' := by
  have HLS := hd hls
  have HSM := hd hs
  have H0 := hd h
  clear h hls hs
  go_enter Try.func100, Try.ntmps100
  go_wp2_with fail
  go_loopw [8] (fun vi wr => ∃ (i : Nat) (dk : Array Nat), vi = .int .i64 i ∧ 1 ≤ i ∧ i ≤ m + 1 ∧ Hd (InsSt w G n m dk wr) ∧ Hd (Sort.insOuter (byFr ls) 0 m i dk = Sort.insertionSort (byFr ls) d 0 m)) (fun vi _ => (m + 1 - intOf vi).toNat)
  case atStart => exact ⟨1, d, by go_num, by omega, by omega, H0, hd rfl⟩
  case round =>
    obtain ⟨i, dk, rfl, hi1, him, HI, HO⟩ := hrel
    by_cases hlt : i < m
    · go_wp2_with fail
      go_loopw [9] (fun vj w2 => ∃ (j : Nat) (dj : Array Nat), vj = .int .i64 j ∧ j ≤ i ∧ Hd (InsSt w G n m dj w2) ∧ Hd (Sort.insInner (byFr ls) 0 j dj = Sort.insInner (byFr ls) 0 i dk)) (fun vj _ => (intOf vj).toNat)
      case atStart => exact ⟨i, dk, rfl, by omega, HI, hd rfl⟩
      case round =>
        rename World => w2
        obtain ⟨j, dj, rfl, hj, HJ, HIN⟩ := hrel
        have HSTOP : Hd (Sort.insInner (byFr ls) 0 j dj = dj → Sort.insOuter (byFr ls) 0 m (i + 1) dj = Sort.insertionSort (byFr ls) d 0 m) := hd (fun h => by rw [← HO.out, outer_go m i dk hlt, ← HIN.out, h])
        by_cases hj0 : j = 0
        · subst hj0
          have HV := hd (HSTOP.out (inner_zero dj))
          go_wp2_with fail
          refine wp_region_rel 14 (JE w2) (Ext []) (kinds []) (by kernel_rfl) (by kernel_rfl) JE.less ?_ JE.start ?_
          · exact Stays.nil
          simp only [List.take_succ_cons, List.take_zero, List.drop_succ_cons, List.drop_zero]
          repeat
            refine relAt_det rfl rfl ?_
            apply Exists.intro
            refine ⟨fun wr nr hJ => ?_, ?_⟩
            · skip
              clear hJ
              (go_simp; try go_bits)
              first | rfl | exact ⟨rfl, rfl⟩
            simp only [Act.put, List.setIfInBounds_toArray, List.set_cons_succ, List.set_cons_zero]
          repeat
            refine relAt_skip rfl ?_
            simp only [Act.put, List.setIfInBounds_toArray, List.set_cons_succ, List.set_cons_zero]
          refine relAt_nil (fun w3 hJ hF => ?_)
          have HE3 := hd hJ
          clear hF hJ
          go_wp2_with fail
          go_roundw
          case rel => exact ⟨i + 1, dj, by go_num, by omega, by omega, hd ⟨HJ.out.size, HJ.out.bd, HJ.out.nb.ext HE3.out (by simp), HJ.out.ext.trans HE3.out.nil⟩, HV⟩
          case measure => simp [intOf]; omega
        · obtain ⟨k, rfl⟩ : ∃ k, j = k + 1 := ⟨j - 1, by omega⟩
          have hkm : k + 1 < m := by omega
          have hx0 := HJ.out.bd (k + 1) hkm
          have hy0 := HJ.out.bd k (by omega)
          obtain ⟨x, hx⟩ : ∃ x, x = dj[k + 1]! := ⟨_, rfl⟩
          obtain ⟨y, hy⟩ : ∃ y, y = dj[k]! := ⟨_, rfl⟩
          rw [← hx] at hx0
          rw [← hy] at hy0
          have HX := hd hx
          have HY := hd hy
          have KX : Hd (∀ W, Ext [] w2 W → W.cell? ⟨G, k + 1, none⟩ = some (.int .i64 x) ∧ W.cell? ⟨G, k, none⟩ = some (.int .i64 y) ∧ W.frozen? ⟨G, k + 1, none⟩ = false ∧ W.frozen? ⟨G, k, none⟩ = false ∧ G < W.heap.size) := hd fun W hW => by
            have hN := HJ.out.nb.ext hW (by simp)
            rw [hx, hy]
            exact ⟨hN.cell (k + 1) (by rw [HJ.out.size]; omega), hN.cell k (by rw [HJ.out.size]; omega), hN.frozen _, hN.frozen _, hN.lt⟩
          have hw0 : IntKind.i64.wrap (k : Int) = (k : Int) := by rw [IntKind.wrap_i64]; omega
          have hk0 : (0 : Int) ≤ (k : Int) + 1 := by omega
          have ht1 : ((k : Int) + 1).toNat = k + 1 := by omega
          have hb1 : (k : Int) + 1 < (m : Int) := by omega
          have hb2 : (k : Int) < (m : Int) := by omega
          clear hx hy hj0
          go_wp2_with fail
          refine wp_region_rel 14 (JE w2) (Ext []) (kinds []) (by kernel_rfl) (by kernel_rfl) JE.less ?_ JE.start ?_
          · exact Stays.nil
          simp only [List.take_succ_cons, List.take_zero, List.drop_succ_cons, List.drop_zero]
          repeat
            refine relAt_det rfl rfl ?_
            apply Exists.intro
            refine ⟨fun wr nr hJ => ?_, ?_⟩
            · obtain ⟨k1, k2, _, _, _⟩ := KX.out _ hJ
              clear hJ
              (go_simp; try go_bits)
              first | rfl | exact ⟨rfl, rfl⟩
            simp only [Act.put, List.setIfInBounds_toArray, List.set_cons_succ, List.set_cons_zero]
          refine relAt_nil (fun w3 hJ hF => ?_)
          have HE3 := hd hJ
          clear hF hJ
          go_wp2_with fail
          refine (cmp_any T n x y ls w3 (HLS.out w3 (HJ.out.ext.trans HE3.out.nil)) HSM.out hx0 hy0 hn).mono ?_
          rintro e w4 ⟨rfl, hE4⟩
          have HE4 := hd (HE3.out.trans hE4)
          have HEQ : Hd (byFr ls dj[k + 1]! dj[k]! = decide ((lf ls x).fr < (lf ls y).fr)) := hd (by rw [HX.out, HY.out]; rfl)
          clear hE4
          generalize (lf ls x).fr = u at *
          generalize (lf ls y).fr = v at *
          by_cases hl : u < v
          · have hl2 : u - v < 0 := by omega
            have HGO : Hd (Sort.insInner (byFr ls) 0 k (Sort.swp dj (k + 1) k) = Sort.insInner (byFr ls) 0 i dk) := hd (by rw [← HIN.out, inner_go k dj (by rw [HEQ.out]; exact decide_eq_true hl)])
            obtain ⟨q1, q2, q3, q4, q5⟩ := KX.out _ HE4.out
            go_wp2_with fail
            have HSW : Hd (InsSt w G n m (Sort.swp dj (k + 1) k) ((w4.setCell ⟨G, k + 1, none⟩ (.int .i64 y)).setCell ⟨G, k, none⟩ (.int .i64 x)).drew) := hd (by
              have hN := HJ.out.nb.ext HE4.out (by simp)
              have hsz := HJ.out.size
              refine ⟨by rw [swp_size]; exact hsz, fun q hq => ?_, ?_, (((HJ.out.ext.trans HE4.out.nil).setCell (.inl (by simp)) _).setCell (.inl (by simp)) _).drew⟩
              · obtain ⟨r, hr, he⟩ := swp_get (d := dj) (i := k + 1) (j := k) (k := q) (by omega) (by omega) (by omega)
                rw [he]
                exact HJ.out.bd r (by omega)
              · have := hN.swap (k + 1) k
                rw [← HX.out, ← HY.out] at this
                exact this)
            go_region
            go_wp2_with fail
            go_roundw
            case rel => exact ⟨k, Sort.swp dj (k + 1) k, by go_num, by omega, HSW, HGO⟩
            case measure => simp [intOf]
          · have hl2 : ¬ u - v < 0 := by omega
            have hb3 : decide (u - v < 0) = false := by simpa using hl2
            have HV := hd (HSTOP.out (inner_stop k dj (by rw [HEQ.out]; exact decide_eq_false hl)))
            go_wp2_with fail
            go_roundw
            case rel => exact ⟨i + 1, dj, by go_num, by omega, by omega, hd ⟨HJ.out.size, HJ.out.bd, HJ.out.nb.ext HE4.out (by simp), HJ.out.ext.trans HE4.out.nil⟩, HV⟩
            case measure => simp [intOf]; omega
    · have HV : Hd (dk = Sort.insertionSort (byFr ls) d 0 m) := hd (by rw [← HO.out, outer_stop m i dk hlt])
      go_wp2_with fail
      go_end0
      exact ⟨rfl, by rw [← HV.out]; exact HI.out⟩

set_option maxRecDepth 100000 in
theorem stable_any (G T n m cap : Nat) (ls : List Lf) (d : Array Nat) (w : World) (h : InsSt w G n m d w) (hls : ∀ W, Ext [G] w W → LsV W T ls n) (hs : ∀ x ∈ ls, Small x) (hn : n ≤ 1000) (hm : m ≤ 19) :
    Calls Try.prog 59 #[.slice (some ⟨G, 0, none⟩) m cap, .func (.func 60) #[] #[.pointer (some ⟨T, 0, none⟩)]] w fun e w' => e = .returned (.tuple #[]) ∧ InsSt w G n m (Sort.insertionSort (byFr ls) d 0 m) w' := by
  have HI := hd (ins_any G T n m cap ls d w h hls hs hn (by omega))
  have HC : Hd (Calls Try.prog 81 #[.slice (some ⟨G, 0, none⟩) m cap, .int .i64 m, .func (.func 60) #[] #[.pointer (some ⟨T, 0, none⟩)]] w fun e w' => e = .returned (.tuple #[]) ∧ InsSt w G n m (Sort.insertionSort (byFr ls) d 0 m) w') := hd (by
    clear h hls hs
    go_enter Try.func81, Try.ntmps81
    go_wp2_with fail
    refine wp_loop_rounds 1 ?_
    rw [rounds_succ]
    go_wp2_with fail
    refine HI.out.mono ?_
    rintro e w' ⟨rfl, hS⟩
    have HS := hd hS
    clear hS
    go_wp2_with fail
    refine wp_loop_rounds 1 ?_
    rw [rounds_succ]
    go_wp2_with fail
    go_end0
    exact ⟨rfl, HS.out⟩)
  clear h hls hs HI
  go_enter Try.func59, Try.ntmps59
  go_wp2_with fail
  refine HC.out.mono ?_
  rintro e w' ⟨rfl, hS⟩
  have HS := hd hS
  clear hS
  go_wp2_with fail
  go_end0
  exact ⟨rfl, HS.out⟩
end Go.Proofs.Ytedabpldigcffaa
