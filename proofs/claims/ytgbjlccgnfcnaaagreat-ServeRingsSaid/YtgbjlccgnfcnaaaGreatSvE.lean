/- slices.Concat of lists of ints (the walk). -/
import Derived.Test.YtgbjlccgnfcnaaaGreatSvD
import Derived.Lib.AppendZerosOnto
namespace Go.Proofs.YtgbjlccgnfcnaaaGreat
open Go.RowKit
set_option linter.unusedSimpArgs false
set_option linter.unusedVariables false

/-- A new row without elements. -/
def GrowI (B : Nat) (w : World) (e : Ending) (w' : World) : Prop := ∃ v, e = .returned v ∧ Ext [] w w' ∧ w'.ownsRow B 3 1 v 0 []
theorem intInfo : ∃ i0 : TypeInfo, (Tryz.prog).info? 3 = some i0 ∧ i0.zero = some (.int .i64 0) ∧ i0.size = 1 ∧ i0.bytes = 8 :=
  info_parts (show ((Tryz.prog).info? 3).map (fun i => (i.zero, i.size, i.bytes)) = some (some (.int .i64 0), 1, 8) by kernel_rfl)
set_option maxHeartbeats 1000000 in
set_option maxRecDepth 100000 in
theorem growI_any (k : Nat) (hk : k ≤ 10000) (hk0 : 0 < k) (w : World) :
    Calls Tryz.prog 89 #[.slice none 0 0, .int .i64 k] w (GrowI w.heap.size w) := by
  obtain ⟨i0, hi0, hz0, hz1, hz2⟩ := intInfo
  have hrun : ∀ ty, (Builtin.append_ #[22, 3] ty #[.slice none 0 0, .int .i64 k]).run Tryz.prog w = .ok (.slice (some ⟨w.heap.size, 0, none⟩) k (grownCap w k 0 3)) (w.drew.alloc (.cells (#[] ++ Builtin.zeroCells (Value.cells (.int .i64 0)) k ++ Builtin.zeroCells (Value.cells (.int .i64 0)) (grownCap w k 0 3 - k)) 3)) := fun ty => by
    have h := Go.Lib.run_append_grow_zeros (P := Tryz.prog) w 22 3 ty 3 i0 (.int .i64 0) .i64 .i64 Tryz.underlying22 Tryz.underlying3 hi0 hz0 none 0 0 [] (by simp [Builtin.firstCells]) k hk0 (by rw [hz1]; omega) (by omega) (by omega) (by rw [hz2]; omega) (growslice_fits (by omega) (by rw [hz2]; omega))
    simpa using h
  have hgc := grownCap_ge w k 0 3
  have hgm := grownCap_le_maxLen w k 0 3 (by unfold maxLen; omega)
  obtain ⟨G, hG⟩ : ∃ G, grownCap w k 0 3 = G := ⟨_, rfl⟩
  rw [hG] at hrun hgc hgm
  obtain ⟨C, hC⟩ : ∃ C, #[] ++ Builtin.zeroCells (Value.cells (.int .i64 0)) k ++ Builtin.zeroCells (Value.cells (.int .i64 0)) (G - k) = C := ⟨_, rfl⟩
  have hCs : C.size = G * 1 := by rw [← hC]; simp [Builtin.zeroCells, Value.cells]; omega
  rw [hC] at hrun
  clear hG hC
  unfold maxLen at hgm
  have HCS := hd hCs
  clear hCs
  go_enter Tryz.func89, Tryz.ntmps89
  go_wp2_with (at_builtin; refine Lib.wpList_append_run _ rfl _ _ _ _ rfl _ _ rfl rfl _ _ (hrun _) ?_)
  go_ret
  exact ⟨_, rfl, (Ext.refl _ _).drew.alloc _, rfl, .inr ⟨w.heap.size, G, C, rfl, Nat.le_refl _, by show Blk (w.drew.alloc _) _ _ _; exact Blk.new w.drew _ _, Nat.zero_le _, hgm, HCS.out, by simp⟩⟩
/-- Block b holds slices of ints from -128 to 127. -/
def LsIn (w : World) (b : Nat) (L : List (Nat × Nat × Nat)) : Prop := ∀ i x, L[i]? = some x → w.cell? ⟨b, i, none⟩ = some (.slice (some ⟨x.1, 0, none⟩) x.2.1 x.2.2) ∧ IsL w x.1 x.2.1 (-128) 127 ∧ x.2.1 ≤ 100 ∧ 1 ≤ x.2.1
def sumL (L : List (Nat × Nat × Nat)) (k : Nat) : Nat := ((L.take k).map fun x => x.2.1).sum
theorem sumL_succ {L : List (Nat × Nat × Nat)} {k : Nat} {x : Nat × Nat × Nat} (h : L[k]? = some x) : sumL L (k + 1) = sumL L k + x.2.1 := by
  unfold sumL
  rw [List.take_add_one, h]
  simp
theorem sumL_le {w : World} {b : Nat} {L : List (Nat × Nat × Nat)} (h : LsIn w b L) : ∀ k, sumL L k ≤ k * 100 := by
  intro k
  induction k with
  | zero => simp [sumL]
  | succ k ih =>
    cases hx : L[k]? with
    | none =>
      have : L.take (k + 1) = L.take k := by rw [List.take_add_one, hx]; simp
      unfold sumL at *
      rw [this]
      omega
    | some x =>
      rw [sumL_succ hx]
      have := (h k x hx).2.2.1
      omega
theorem LsIn.ext {w w' : World} {b : Nat} {L : List (Nat × Nat × Nat)} (h : LsIn w b L) (hE : Ext [] w w') : LsIn w' b L := fun i x hx => by
  obtain ⟨h1, h2, h3, h4⟩ := h i x hx
  exact ⟨hE.held h1 (by simp), h2.ext hE (by simp), h3, h4⟩
theorem IsL.news {w : World} {b n : Nat} {lo hi : Int} (h : IsL w b n lo hi) : ∃ xs : List Int, xs.length = n ∧ AllIn lo hi xs ∧ ∀ j u, (xs.map (Value.int .i64))[j]? = some u → w.cell? ((⟨b, 0, none⟩ : Addr).add j) = some u := by
  obtain ⟨xs, h1, h2, h3, h4⟩ := h
  exact ⟨xs, h2, h3, h1.news⟩
theorem ints_one (xs : List Int) : ∀ u ∈ xs.map (Value.int .i64), u.oneCell' = true := fun u hu => by
  obtain ⟨x, _, rfl⟩ := List.mem_map.1 hu
  rfl
theorem own_low {w : World} {B B' : Nat} {e : TypeId} {z n : Nat} {v : Value} {xs : List Value} (h : w.ownsRow B e z v n xs) (hB : B' ≤ B) : w.ownsRow B' e z v n xs := by
  refine ⟨h.1, ?_⟩
  rcases h.2 with h1 | ⟨g, cap, cur, h1, h2, h3⟩
  · exact .inl h1
  · exact .inr ⟨g, cap, cur, h1, Nat.le_trans hB h2, h3⟩
/-- What Concat answers. -/
def CatI (n : Nat) (w : World) (e : Ending) (w' : World) : Prop := ∃ g c, e = .returned (.slice (some ⟨g, 0, none⟩) n c) ∧ Ext [] w w' ∧ IsL w' g n (-128) 127
set_option maxHeartbeats 2000000 in
set_option maxRecDepth 100000 in
theorem concatI_any (b c m n : Nat) (L : List (Nat × Nat × Nat)) (w : World) (h : LsIn w b L) (hm : L.length = m) (hm8 : m ≤ 8) (hm1 : 1 ≤ m) (hn : sumL L m = n) (hn1 : 1 ≤ n) (hb : b < w.heap.size) :
    Calls Tryz.prog 77 #[.slice (some ⟨b, 0, none⟩) m c] w (CatI n w) := by
  obtain ⟨i0, hi0, hz0, hz1, hz2⟩ := intInfo
  have HL := hd h
  have HM := hd hm
  have HN := hd hn
  have HS := hd (sumL_le h)
  clear h hm hn
  go_enter Tryz.func77, Tryz.ntmps77
  go_wp2_with fail
  go_loop [3, 11] (fun s i => ∃ (k : Nat) (z : Nat), i = .int .i64 k ∧ s = .int .i64 z ∧ k ≤ m ∧ z ≤ k * 100 ∧ Hd (z = sumL L k)) (fun _ i => (m - intOf i).toNat)
  case atStart => exact ⟨0, 0, rfl, rfl, by omega, by omega, hd (by simp [sumL])⟩
  case round =>
    obtain ⟨k, z, rfl, rfl, hk, hz, HZ⟩ := hrel
    by_cases hk2 : k < m
    · obtain ⟨x, hx⟩ : ∃ x, L[k]? = some x := ⟨_, List.getElem?_eq_getElem (by have := HM.o; omega)⟩
      obtain ⟨q, _, q1, q2⟩ := HL.o k x hx
      have HX := hd hx
      clear hx
      obtain ⟨x1, x2, x3⟩ := x
      dsimp only at q q1 q2
      go_wp2_with fail
      go_round
      case rel => exact ⟨k + 1, z + x2, by go_num, by go_num, by omega, by omega, hd (by rw [sumL_succ HX.o, ← HZ.o])⟩
      case measure => simp [intOf]; omega
    · have hk3 : k = m := by omega
      subst hk3
      obtain rfl : z = n := HZ.o.trans HN.o
      clear hk2 hz
      have hz2' : z ≤ 800 := by have := HS.o k; have := HN.o; omega
      go_wp2_with fail
      refine (growI_any z (by omega) (by omega) _).mono ?_
      rintro e w2 ⟨v2, rfl, hE2, hO2⟩
      have HE2 := hd hE2
      have HO2 := hd hO2
      clear hE2 hO2
      go_wp2_with fail
      go_loopw [6, 27] (fun v i wr => ∃ (j : Nat) (ys : List Int) (u : Value), i = .int .i64 j ∧ u = v ∧ j ≤ k ∧ Hd (Ext [] w wr) ∧ Hd (wr.ownsRow w.heap.size 3 1 u (sumL L j) (ys.map (Value.int .i64))) ∧ Hd (AllIn (-128) 127 ys)) (fun _ i _ => (k - intOf i).toNat)
      case atStart => exact ⟨0, [], _, rfl, rfl, by omega, HE2, hd HO2.o, hd (fun x hx => by cases hx)⟩
      case round =>
        obtain ⟨j, ys, u, rfl, rfl, hj, HE, HO, HA⟩ := hrel
        rename World => wq
        by_cases hj2 : j < k
        · obtain ⟨x, hx⟩ : ∃ x, L[j]? = some x := ⟨_, List.getElem?_eq_getElem (by have := HM.o; omega)⟩
          have HX := hd hx
          obtain ⟨q, qi, q1, q2⟩ := (HL.o.ext HE.o) j x hx
          clear hx
          obtain ⟨x1, x2, x3⟩ := x
          dsimp only at q q1 q2 qi
          obtain ⟨xs, hxs, hxa, hnews⟩ := qi.news
          have HNW := hd hnews
          have HXL := hd hxs
          have HXA := hd hxa
          have ql : b < wq.heap.size := Nat.lt_of_lt_of_le hb HE.o.size
          have qx := qi.lt
          have hsj : sumL L j ≤ 800 := by have := HS.o j; omega
          have hbs := HE.o.size
          clear qi hxs hxa hnews
          obtain ⟨sj, hsj2⟩ : ∃ sj, sumL L j = sj := ⟨_, rfl⟩
          rw [hsj2] at HO hsj
          have HSJ := hd hsj2
          clear hsj2
          go_wp2_with (
            refine wpList_append_own_at _ rfl _ _ 22 rfl w.heap.size 3 i0 _ 1 8 Tryz.underlying22 hi0 hz0 hz1 hz2 rfl (by decide) u sj _ rfl HO.out ⟨x1, 0, none⟩ x2 x3 (xs.map (Value.int .i64)) rfl ?c0 ?c1 (ints_one _) ?c3 ?c4 ?c5 ?_
            case c0 => rw [List.length_map, HXL.out]; omega
            case c1 => exact HNW.out
            case c3 => unfold maxLen; omega
            case c4 => omega
            case c5 => omega
            intro v8 w8 ho8 hg8 hi8 ha8
            have HO8 := hd ho8
            have HE8 := hd (HE.out.grown hg8 (fun q hq => .inr (own_base HO.out q hq)))
            clear ho8 hg8 hi8 ha8)
          go_roundw
          case rel =>
            refine ⟨j + 1, ys ++ xs, _, by go_num, rfl, by omega, HE8, hd ?_, hd ?_⟩
            · rw [sumL_succ HX.o, HSJ.o, List.map_append]
              exact HO8.o
            · intro y hy
              rcases List.mem_append.1 hy with h | h
              · exact HA.o y h
              · exact HXA.o y h
          case measure => simp [intOf]; omega
        · have hj3 : j = k := by omega
          subst hj3
          rw [HN.o] at HO
          obtain ⟨A, cc, rfl, hcc, hg⟩ := own_form HO.o
          obtain ⟨g, rfl, hg1, hg2⟩ := hg hn1
          go_wp2_with fail
          go_ret
          refine ⟨g, cc, rfl, HE.o, ys, ?_, ?_, HA.o, hg2⟩
          · intro i x hx
            rw [Nat.zero_add]
            exact row_cells HO.o i _ (by rw [List.getElem?_map, hx]; rfl)
          · have := HO.o.1
            simpa using this
end Go.Proofs.YtgbjlccgnfcnaaaGreat
