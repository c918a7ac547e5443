/- ServeRanges: Ranges of package serve against the specification's (the walk). -/
import Derived.Test.YtgbjlccgnfcnaaaGreatSvX
namespace Go.Proofs.YtgbjlccgnfcnaaaGreat
open Go.RowKit
set_option linter.unusedSimpArgs false
set_option linter.unusedVariables false

/-- Where device k begins. -/
def posS (size d : Int) : Nat → Int
  | 0 => 0
  | k + 1 => posS size d k + (size / d + if (k : Int) < size % d then 1 else 0)
def posL (size d : Int) (k : Nat) : List Int := (List.range (k + 1)).map (posS size d)
theorem posL_len (size d : Int) (k : Nat) : (posL size d k).length = k + 1 := by simp [posL]
theorem posL_last (size d : Int) (k : Nat) : (posL size d k)[k]? = some (posS size d k) := by simp [posL]
theorem posL_succ (size d : Int) (k : Nat) : posL size d (k + 1) = posL size d k ++ [posS size d (k + 1)] := by
  simp [posL, List.range_succ]
theorem posS_bd (size d : Int) (h1 : 1 ≤ d) (h2 : 0 ≤ size) (h3 : size ≤ 16) (k : Nat) : 0 ≤ posS size d k ∧ posS size d k ≤ 17 * k := by
  have h4 : 0 ≤ size / d := Int.ediv_nonneg h2 (by omega)
  have h5 : size / d ≤ size := Int.ediv_le_self _ h2
  induction k with
  | zero => simp [posS]
  | succ k ih =>
    simp only [posS]
    split <;> omega
/-- What both answer. -/
def RngP (size d : Int) (n : Nat) (w : World) (e : Ending) (w' : World) : Prop := ∃ g cap, e = .returned (.slice (some ⟨g, 0, none⟩) (n + 1) cap) ∧ RdI w' (some ⟨g, 0, none⟩) (posL size d n) ∧ Ext [] w w'
set_option maxHeartbeats 2000000 in
set_option maxRecDepth 100000 in
theorem ranges_any (size d : Int) (n : Nat) (hn : d = n) (h1 : 1 ≤ d) (hd4 : d ≤ 4) (h2 : 0 ≤ size) (h3 : size ≤ 16) (w : World) :
    Calls Tryz.prog 29 #[.int .i64 size, .int .i64 d] w (RngP size d n w) := by
  subst hn
  obtain ⟨i0, hi0, hz0, hz1, hz2⟩ := intInfo
  have HB := hd (fun k => posS_bd size n h1 h2 h3 k)
  have hd0 : (n : Int) ≠ 0 := by omega
  have hq0 : 0 ≤ size / n := Int.ediv_nonneg h2 (by omega)
  have hq1 : size / n ≤ size := Int.ediv_le_self _ h2
  have hm1 : 0 ≤ size % n := Int.emod_nonneg _ (by omega)
  have hm2 : size % n < n := Int.emod_lt_of_pos _ (by omega)
  have hO0 := hd (show (w.alloc (.cells #[.int .i64 0] 3)).ownsRow w.heap.size 3 1 (.slice (some ⟨w.heap.size, 0, none⟩) 1 1) 1 ((posL size n 0).map (Value.int .i64)) from ⟨rfl, .inr ⟨_, 1, _, rfl, Nat.le_refl _, Blk.new _ _ _, Nat.le_refl _, by unfold maxLen; omega, rfl, rfl⟩⟩)
  have hE0 := hd ((Ext.refl [] w).alloc (.cells #[.int .i64 0] 3))
  go_enter Tryz.func29, Tryz.ntmps29
  go_wp2_with fail
  go_loopw [5, 10] (fun v i wr => ∃ (k g c : Nat), i = .int .i64 k ∧ v = .slice (some ⟨g, 0, none⟩) (k + 1) c ∧ k ≤ n ∧ Hd (wr.ownsRow w.heap.size 3 1 (.slice (some ⟨g, 0, none⟩) (k + 1) c) (k + 1) ((posL size n k).map (Value.int .i64))) ∧ Hd (Ext [] w wr)) (fun _ i _ => (n - intOf i).toNat)
  case atStart => exact ⟨0, _, 1, rfl, rfl, Nat.zero_le _, hO0, hE0⟩
  case round =>
    obtain ⟨k, g, c, rfl, rfl, hk, HO, HE⟩ := hrel
    rename World => wq
    by_cases hlt : k < n
    · have q := row_cells HO.o k _ (by rw [List.getElem?_map, posL_last]; rfl)
      have ql := World.block_lt_of_cell? _ _ q
      simp only at ql
      have hb := HB.o k
      have HL : Hd (posS size n (k + 1) = posS size n k + (size / n + if (k : Int) < size % n then 1 else 0)) := hd rfl
      have hwz := HE.o.size
      by_cases hmk : (k : Int) < size % n
      · have HL2 : Hd (posS size n (k + 1) = posS size n k + (size / n + 1)) := hd (by rw [HL.o, if_pos hmk])
        generalize hp : posS size n k = p at *
        have HNW := hd (cell_one_new wq (.int .i64 (p + (size / n + 1))) 3)
        have HEA := hd ((Ext.refl [] wq).alloc (.cells #[.int .i64 (p + (size / n + 1))] 3))
        have HOA := hd (own_ext HO.o HEA.o (by simp))
        clear HL
        go_wp2_with (
          refine wpList_append_lies _ rfl _ _ 22 rfl w.heap.size 3 i0 _ 1 8 Tryz.underlying22 hi0 hz0 hz1 hz2 rfl (by decide) _ (k + 1) _ rfl HOA.o ⟨wq.heap.size, 0, none⟩ 1 1 [.int .i64 (p + (size / n + 1))] rfl rfl HNW.o ?c2 (by omega) ?c3 ?c4 ?c5 _ rfl ?_
          case c2 => intro u hu; rw [List.mem_singleton.1 hu]; rfl
          case c3 => unfold maxLen; omega
          case c4 => omega
          case c5 => simp; omega
          intro g8 c8 w8 ho8 hg8 hi8 ha8
          have HO8 := hd ho8
          have HE8 := hd ((HE.o.trans HEA.o).grown hg8 (fun q hq => .inr (own_base HO.out q hq)))
          clear ho8 hg8 hi8)
        go_roundw
        case rel => exact ⟨k + 1, g8, c8, by go_num, rfl, by omega, hd (by rw [posL_succ, List.map_append, HL2.o]; exact HO8.o), HE8⟩
        case measure => simp [intOf]; omega
      · have HL2 : Hd (posS size n (k + 1) = posS size n k + size / n) := hd (by rw [HL.o, if_neg hmk, Int.add_zero])
        generalize hp : posS size n k = p at *
        have HNW := hd (cell_one_new wq (.int .i64 (p + size / n)) 3)
        have HEA := hd ((Ext.refl [] wq).alloc (.cells #[.int .i64 (p + size / n)] 3))
        have HOA := hd (own_ext HO.o HEA.o (by simp))
        clear HL
        go_wp2_with (
          refine wpList_append_lies _ rfl _ _ 22 rfl w.heap.size 3 i0 _ 1 8 Tryz.underlying22 hi0 hz0 hz1 hz2 rfl (by decide) _ (k + 1) _ rfl HOA.o ⟨wq.heap.size, 0, none⟩ 1 1 [.int .i64 (p + size / n)] rfl rfl HNW.o ?c2 (by omega) ?c3 ?c4 ?c5 _ rfl ?_
          case c2 => intro u hu; rw [List.mem_singleton.1 hu]; rfl
          case c3 => unfold maxLen; omega
          case c4 => omega
          case c5 => simp; omega
          intro g8 c8 w8 ho8 hg8 hi8 ha8
          have HO8 := hd ho8
          have HE8 := hd ((HE.o.trans HEA.o).grown hg8 (fun q hq => .inr (own_base HO.out q hq)))
          clear ho8 hg8 hi8)
        go_roundw
        case rel => exact ⟨k + 1, g8, c8, by go_num, rfl, by omega, hd (by rw [posL_succ, List.map_append, HL2.o]; exact HO8.o), HE8⟩
        case measure => simp [intOf]; omega
    · have hkn : k = n := by omega
      subst hkn
      go_wp2_with fail
      go_ret
      exact ⟨g, c, rfl, .inr ⟨g, 0, rfl, fun i x hx => by rw [Nat.zero_add]; exact row_cells HO.o i _ (by rw [List.getElem?_map, hx]; rfl)⟩, HE.o⟩
set_option maxHeartbeats 2000000 in
set_option maxRecDepth 100000 in
theorem rangesOf_any (size d : Int) (n : Nat) (hn : d = n) (h1 : 1 ≤ d) (hd4 : d ≤ 4) (h2 : 0 ≤ size) (h3 : size ≤ 16) (w : World) :
    Calls Tryz.prog 9 #[.int .i64 size, .int .i64 d] w (RngP size d n w) := by
  subst hn
  obtain ⟨i0, hi0, hz0, hz1, hz2⟩ := intInfo
  have HB := hd (fun k => posS_bd size n h1 h2 h3 k)
  have hd0 : (n : Int) ≠ 0 := by omega
  have hq0 : 0 ≤ size / n := Int.ediv_nonneg h2 (by omega)
  have hq1 : size / n ≤ size := Int.ediv_le_self _ h2
  have hm1 : 0 ≤ size % n := Int.emod_nonneg _ (by omega)
  have hm2 : size % n < n := Int.emod_lt_of_pos _ (by omega)
  have hO0 := hd (show (w.alloc (.cells #[.int .i64 0] 3)).ownsRow w.heap.size 3 1 (.slice (some ⟨w.heap.size, 0, none⟩) 1 1) 1 ((posL size n 0).map (Value.int .i64)) from ⟨rfl, .inr ⟨_, 1, _, rfl, Nat.le_refl _, Blk.new _ _ _, Nat.le_refl _, by unfold maxLen; omega, rfl, rfl⟩⟩)
  have hE0 := hd ((Ext.refl [] w).alloc (.cells #[.int .i64 0] 3))
  go_enter Tryz.func9, Tryz.ntmps9
  go_wp2_with fail
  go_loopw [5, 10] (fun v i wr => ∃ (k g c : Nat), i = .int .i64 k ∧ v = .slice (some ⟨g, 0, none⟩) (k + 1) c ∧ k ≤ n ∧ Hd (wr.ownsRow w.heap.size 3 1 (.slice (some ⟨g, 0, none⟩) (k + 1) c) (k + 1) ((posL size n k).map (Value.int .i64))) ∧ Hd (Ext [] w wr)) (fun _ i _ => (n - intOf i).toNat)
  case atStart => exact ⟨0, _, 1, rfl, rfl, Nat.zero_le _, hO0, hE0⟩
  case round =>
    obtain ⟨k, g, c, rfl, rfl, hk, HO, HE⟩ := hrel
    rename World => wq
    by_cases hlt : k < n
    · have q := row_cells HO.o k _ (by rw [List.getElem?_map, posL_last]; rfl)
      have ql := World.block_lt_of_cell? _ _ q
      simp only at ql
      have hb := HB.o k
      have HL : Hd (posS size n (k + 1) = posS size n k + (size / n + if (k : Int) < size % n then 1 else 0)) := hd rfl
      have hwz := HE.o.size
      by_cases hmk : (k : Int) < size % n
      · have HL2 : Hd (posS size n (k + 1) = posS size n k + (size / n + 1)) := hd (by rw [HL.o, if_pos hmk])
        generalize hp : posS size n k = p at *
        have HNW := hd (cell_one_new wq (.int .i64 (p + (size / n + 1))) 3)
        have HEA := hd ((Ext.refl [] wq).alloc (.cells #[.int .i64 (p + (size / n + 1))] 3))
        have HOA := hd (own_ext HO.o HEA.o (by simp))
        clear HL
        go_wp2_with (
          refine wpList_append_lies _ rfl _ _ 22 rfl w.heap.size 3 i0 _ 1 8 Tryz.underlying22 hi0 hz0 hz1 hz2 rfl (by decide) _ (k + 1) _ rfl HOA.o ⟨wq.heap.size, 0, none⟩ 1 1 [.int .i64 (p + (size / n + 1))] rfl rfl HNW.o ?c2 (by omega) ?c3 ?c4 ?c5 _ rfl ?_
          case c2 => intro u hu; rw [List.mem_singleton.1 hu]; rfl
          case c3 => unfold maxLen; omega
          case c4 => omega
          case c5 => simp; omega
          intro g8 c8 w8 ho8 hg8 hi8 ha8
          have HO8 := hd ho8
          have HE8 := hd ((HE.o.trans HEA.o).grown hg8 (fun q hq => .inr (own_base HO.out q hq)))
          clear ho8 hg8 hi8)
        go_roundw
        case rel => exact ⟨k + 1, g8, c8, by go_num, rfl, by omega, hd (by rw [posL_succ, List.map_append, HL2.o]; exact HO8.o), HE8⟩
        case measure => simp [intOf]; omega
      · have HL2 : Hd (posS size n (k + 1) = posS size n k + size / n) := hd (by rw [HL.o, if_neg hmk, Int.add_zero])
        generalize hp : posS size n k = p at *
        have HNW := hd (cell_one_new wq (.int .i64 (p + size / n)) 3)
        have HEA := hd ((Ext.refl [] wq).alloc (.cells #[.int .i64 (p + size / n)] 3))
        have HOA := hd (own_ext HO.o HEA.o (by simp))
        clear HL
        go_wp2_with (
          refine wpList_append_lies _ rfl _ _ 22 rfl w.heap.size 3 i0 _ 1 8 Tryz.underlying22 hi0 hz0 hz1 hz2 rfl (by decide) _ (k + 1) _ rfl HOA.o ⟨wq.heap.size, 0, none⟩ 1 1 [.int .i64 (p + size / n)] rfl rfl HNW.o ?c2 (by omega) ?c3 ?c4 ?c5 _ rfl ?_
          case c2 => intro u hu; rw [List.mem_singleton.1 hu]; rfl
          case c3 => unfold maxLen; omega
          case c4 => omega
          case c5 => simp; omega
          intro g8 c8 w8 ho8 hg8 hi8 ha8
          have HO8 := hd ho8
          have HE8 := hd ((HE.o.trans HEA.o).grown hg8 (fun q hq => .inr (own_base HO.out q hq)))
          clear ho8 hg8 hi8)
        go_roundw
        case rel => exact ⟨k + 1, g8, c8, by go_num, rfl, by omega, hd (by rw [posL_succ, List.map_append, HL2.o]; exact HO8.o), HE8⟩
        case measure => simp [intOf]; omega
    · have hkn : k = n := by omega
      subst hkn
      go_wp2_with fail
      go_ret
      exact ⟨g, c, rfl, .inr ⟨g, 0, rfl, fun i x hx => by rw [Nat.zero_add]; exact row_cells HO.o i _ (by rw [List.getElem?_map, hx]; rfl)⟩, HE.o⟩
set_option maxRecDepth 100000 in
theorem rangesGood_any (size : Int) (n : Nat) (h1 : 1 ≤ n) (h4 : n ≤ 4) (h2 : (n : Int) ≤ size) (h3 : size ≤ 16) (w : World) :
    Calls Tryz.prog 6 #[.int .i64 size, .int .i64 n] w fun e w' => ∃ g cap, e = .returned (.tuple #[.slice (some ⟨g, 0, none⟩) (n + 1) cap, .int .i64 0]) ∧ RdI w' (some ⟨g, 0, none⟩) (posL size n n) ∧ Ext [] w w' := by
  have hI : inB n 1 4 = true := by simp [inB]; omega
  have q1 : decide (size < n) = false := by simp; omega
  have q2 : decide (16 < size) = false := by simp; omega
  go_enter Tryz.func6, Tryz.ntmps6
  go_wp2_with fail
  refine (swithin_any _ _ _ _).mono ?_
  rintro e w' ⟨rfl, rfl⟩
  rw [hI]
  go_wp2_with fail
  refine (ranges_any size n n rfl (by omega) (by omega) (by omega) h3 w).mono ?_
  rintro e w' ⟨g, cap, rfl, hR, hE⟩
  have HR := hd hR
  have HE := hd hE
  clear hR hE
  go_wp2_with fail
  go_ret2
  exact ⟨g, cap, rfl, HR.o, HE.o⟩
set_option maxRecDepth 100000 in
theorem rangesBad_any (size d : Int) (hb : ¬(1 ≤ d ∧ d ≤ 4 ∧ d ≤ size ∧ size ≤ 16)) (w : World) :
    Calls Tryz.prog 6 #[.int .i64 size, .int .i64 d] w fun e w' => e = .returned (.tuple #[.slice none 0 0, .int .i64 9]) ∧ w = w' := by
  cases hI : inB d 1 4
  · clear hb
    go_enter Tryz.func6, Tryz.ntmps6
    go_wp2_with fail
    refine (swithin_any _ _ _ _).mono ?_
    rintro e w' ⟨rfl, rfl⟩
    rw [hI]
    go_wp2_with fail
    go_ret2
    exact ⟨rfl, rfl⟩
  · have h14 := inB_iff.1 hI
    by_cases hs : size < d
    · clear hb
      go_enter Tryz.func6, Tryz.ntmps6
      go_wp2_with fail
      refine (swithin_any _ _ _ _).mono ?_
      rintro e w' ⟨rfl, rfl⟩
      rw [hI]
      go_wp2_with fail
      go_ret2
      exact ⟨rfl, rfl⟩
    · have hs2 : 16 < size := by omega
      clear hb
      go_enter Tryz.func6, Tryz.ntmps6
      go_wp2_with fail
      refine (swithin_any _ _ _ _).mono ?_
      rintro e w' ⟨rfl, rfl⟩
      rw [hI]
      go_wp2_with fail
      go_ret2
      exact ⟨rfl, rfl⟩
set_option maxHeartbeats 2000000 in
set_option maxRecDepth 100000 in
theorem serveRanges_any (size d : Int) (w : World) : Calls Tryz.prog 3 #[.int .i64 size, .int .i64 d] w fun e w' => e = .returned (.bool true) ∧ Ext [] w w' := by
  by_cases h1 : 1 ≤ d
  · by_cases h2 : d ≤ 4
    · by_cases h3 : d ≤ size
      · by_cases h4 : size ≤ 16
        · obtain ⟨n, rfl⟩ : ∃ n : Nat, d = n := ⟨d.toNat, by omega⟩
          go_enter Tryz.func3, Tryz.ntmps3
          go_wp2_with fail
          refine (rangesGood_any size n (by omega) (by omega) h3 h4 w).mono ?_
          rintro e w1 ⟨g, cap, rfl, hR, hE⟩
          have HR1 := hd hR
          have HE1 := hd hE
          clear hR hE
          go_wp2_with fail
          refine (serves_any _).mono ?_
          rintro e w2 ⟨rfl, hE⟩
          have HE2 := hd (HE1.o.trans hE)
          have HR2 := hd (HR1.o.ext hE (by simp))
          clear hE
          go_wp2_with fail
          refine (rangesOf_any size n n rfl (by omega) (by omega) (by omega) h4 w2).mono ?_
          rintro e w3 ⟨g3, cap3, rfl, hR, hE⟩
          have HR3 := hd hR
          have HE3 := hd (HE2.o.trans hE)
          have HR4 := hd (HR2.o.ext hE (by simp))
          clear hR hE
          go_wp2_with fail
          refine (equal_same _ _ cap cap3 (n + 1) _ _ w3 HR4.o HR3.o (by omega) (posL_len _ _ _) (posL_len _ _ _)).mono ?_
          rintro e w4 ⟨rfl, hE⟩
          have HE4 := hd (HE3.o.trans hE)
          rw [show decide (posL size n n = posL size n n) = true by simp]
          clear hE
          go_wp2_with fail
          go_ret
          exact ⟨rfl, HE4.o⟩
        · have hb : ¬(1 ≤ d ∧ d ≤ 4 ∧ d ≤ size ∧ size ≤ 16) := by omega
          have HB := hd (rangesBad_any size d hb w)
          clear hb
          go_enter Tryz.func3, Tryz.ntmps3
          go_wp2_with fail
          refine HB.o.mono ?_
          rintro e w1 ⟨rfl, rfl⟩
          go_wp2_with fail
          refine (serves_any _).mono ?_
          rintro e w2 ⟨rfl, hE⟩
          have HE2 := hd hE
          clear hE
          go_wp2_with fail
          go_ret
          exact ⟨rfl, HE2.o⟩
      · have hb : ¬(1 ≤ d ∧ d ≤ 4 ∧ d ≤ size ∧ size ≤ 16) := by omega
        have HB := hd (rangesBad_any size d hb w)
        clear hb
        go_enter Tryz.func3, Tryz.ntmps3
        go_wp2_with fail
        refine HB.o.mono ?_
        rintro e w1 ⟨rfl, rfl⟩
        go_wp2_with fail
        refine (serves_any _).mono ?_
        rintro e w2 ⟨rfl, hE⟩
        have HE2 := hd hE
        clear hE
        go_wp2_with fail
        go_ret
        exact ⟨rfl, HE2.o⟩
    · have hb : ¬(1 ≤ d ∧ d ≤ 4 ∧ d ≤ size ∧ size ≤ 16) := by omega
      have HB := hd (rangesBad_any size d hb w)
      clear hb
      go_enter Tryz.func3, Tryz.ntmps3
      go_wp2_with fail
      refine HB.o.mono ?_
      rintro e w1 ⟨rfl, rfl⟩
      go_wp2_with fail
      refine (serves_any _).mono ?_
      rintro e w2 ⟨rfl, hE⟩
      have HE2 := hd hE
      clear hE
      go_wp2_with fail
      go_ret
      exact ⟨rfl, HE2.o⟩
  · have hb : ¬(1 ≤ d ∧ d ≤ 4 ∧ d ≤ size ∧ size ≤ 16) := by omega
    have HB := hd (rangesBad_any size d hb w)
    clear hb
    go_enter Tryz.func3, Tryz.ntmps3
    go_wp2_with fail
    refine HB.o.mono ?_
    rintro e w1 ⟨rfl, rfl⟩
    go_wp2_with fail
    refine (serves_any _).mono ?_
    rintro e w2 ⟨rfl, hE⟩
    have HE2 := hd hE
    clear hE
    go_wp2_with fail
    go_ret
    exact ⟨rfl, HE2.o⟩
end Go.Proofs.YtgbjlccgnfcnaaaGreat
