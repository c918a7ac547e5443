/- The specification's fields of an operation (operandFields). -/
import Derived.Test.YtedabpldigcffaaRefA
namespace Go.Proofs.Ytedabpldigcffaa
open Go.RowKit
set_option linter.unusedSimpArgs false
set_option linter.unusedVariables false

def fldN : Fld := ⟨78, ⟨#[]⟩, -2147483648, 2147483647⟩
/-- The fields of an operation. -/
def opFields (k : Int) (f : Int → Fld) : List Fld :=
  if k = 15 then [f 68, f 65, f 66, f 67]
  else if inR k 4 10 then [f 68, f 65, f 66]
  else if k = 12 then [f 68, f 65, fldN, ⟨77, ⟨#[]⟩, -2147483648, 2147483647⟩]
  else if k = 13 then [f 68, f 65, ⟨78, ⟨#[]⟩, 1, 31⟩]
  else if k = 14 then [f 68, f 65, ⟨78, ⟨#[]⟩, 1, 2147483647⟩]
  else [f 68, f 65]
theorem own_start {w1 : World} (base : Nat) (fs : List Fld) (n : Nat) (hn : fs.length = n) (hm : n ≤ maxLen) (hb : base ≤ w1.heap.size) :
    (w1.alloc (.cells (fldCells fs).toArray 142)).ownsRow base 142 4 (.slice (some ⟨w1.heap.size, 0, none⟩) n n) n (fldCells fs) := by
  have := World.ownsRow_lit (base := base) (e := 142) (size := 4) w1 (fldCells fs).toArray n hb hm (by rw [← hn]; simpa using fldCells_length fs)
  simpa using this
/-- The order of things behind an append. -/
theorem grown_ext {w wa wb w' : World} {v : Value} {n : Nat} {xs : List Value} (h : Ext [] w wa) (ho : wa.ownsRow w.heap.size 142 4 v n xs) (hE : Ext [] wa wb) (hg : wb.grownBy w' v.ownBlock) : Ext [] w w' :=
  (h.trans hE).grown hg (fun k hk => .inr (ho.lt k hk).1)

set_option maxHeartbeats 2000000 in
set_option maxRecDepth 100000 in
theorem opFields_15_R (w : World) :
    Calls Try.prog 115 #[.int .i64 15, .func (.func 113) #[] #[]] w (FieldsPost [fldR 68, fldR 65, fldR 66, fldR 67] w) := by
  have H1 : Hd (inR 15 4 15 = true) := hd rfl
  have H2 : Hd (opdN 15 = 3) := hd rfl
  obtain ⟨i0, hi0, hz0, hz1, hz2⟩ := info_parts (show ((Try.prog).info? 142).map (fun i => (i.zero, i.size, i.bytes)) = some (some (.agg #[.int .u8 0, .string ⟨#[]⟩, .int .i64 0, .int .i64 0]), 4, 40) by kernel_rfl)
  go_enter Try.func115, Try.ntmps115
  go_wp2_with fail
  refine (fldR_any 68 _).mono ?_
  rintro e w1 ⟨rfl, hE1⟩
  go_wp2_with fail
  refine (fldR_any 65 _).mono ?_
  rintro e w2 ⟨rfl, hE2⟩
  have HO0 := hd (own_start (w1 := w2) w.heap.size [fldR 68, fldR 65] 2 rfl (by decide) (by have := (hE1.trans hE2).size; omega))
  have HE0 := hd ((hE1.trans hE2).alloc (.cells (fldCells [fldR 68, fldR 65]).toArray 142))
  clear hE1 hE2
  go_wp2_with fail
  refine (isOp_any _ _).mono ?_
  rintro e w3 ⟨rfl, rfl⟩
  rw [H1.out]
  go_wp2_with fail
  refine (opds_any _ _).mono ?_
  rintro e w3 ⟨rfl, rfl⟩
  rw [H2.out]
  go_wp2_with fail
  refine (fldR_any 66 _).mono ?_
  rintro e wr0 ⟨rfl, hJ0⟩
  go_wp2_with (
    refine wpList_append_lies _ rfl _ _ 138 rfl w.heap.size 142 i0 _ 4 40 Try.underlying138 hi0 hz0 hz1 hz2 rfl (by decide) _ _ _ rfl ((own_ext HO0.out hJ0 (by simp)).alloc _) ⟨wr0.heap.size, 0, none⟩ 1 1 (fldCells [fldR 66]) rfl rfl ?c1 ?c2 (by decide) (by decide) (by decide) ?c5 _ rfl ?_
    case c1 => exact World.news_of_block (Blk.new' _ _ ((fldCells [fldR 66])).toArray _ (by simp))
    case c2 => intro u hu; simp [fldCells, Fld.cells, fldR, fldV] at hu; rcases hu with rfl | rfl | rfl | rfl <;> rfl
    case c5 => have q1 := HE0.out.size; have q2 := Ext.size hJ0; simp at *; omega
    intro g0 cap0 v0 ho hg ha hlt
    have HE1 := hd (grown_ext HE0.out HO0.out (Ext.alloc hJ0 _) hg)
    have HO1 := hd (show v0.ownsRow w.heap.size 142 4 (.slice (some ⟨g0, 0, none⟩) 3 cap0) 3 (fldCells [fldR 68, fldR 65, fldR 66]) from ho)
    clear ho hg ha)
  refine (opds_any _ _).mono ?_
  rintro e w4 ⟨rfl, rfl⟩
  rw [H2.out]
  go_wp2_with fail
  refine (fldR_any 67 _).mono ?_
  rintro e wr1 ⟨rfl, hJ1⟩
  go_wp2_with (
    refine wpList_append_lies _ rfl _ _ 138 rfl w.heap.size 142 i0 _ 4 40 Try.underlying138 hi0 hz0 hz1 hz2 rfl (by decide) _ _ _ rfl ((own_ext HO1.out hJ1 (by simp)).alloc _) ⟨wr1.heap.size, 0, none⟩ 1 1 (fldCells [fldR 67]) rfl rfl ?c1 ?c2 (by decide) (by decide) (by decide) ?c5 _ rfl ?_
    case c1 => exact World.news_of_block (Blk.new' _ _ ((fldCells [fldR 67])).toArray _ (by simp))
    case c2 => intro u hu; simp [fldCells, Fld.cells, fldR, fldV] at hu; rcases hu with rfl | rfl | rfl | rfl <;> rfl
    case c5 => have q1 := HE1.out.size; have q2 := Ext.size hJ1; simp at *; omega
    intro g1 cap1 v1 ho hg ha hlt
    have HE2 := hd (grown_ext HE1.out HO1.out (Ext.alloc hJ1 _) hg)
    have HO2 := hd (show v1.ownsRow w.heap.size 142 4 (.slice (some ⟨g1, 0, none⟩) 4 cap1) 4 (fldCells [fldR 68, fldR 65, fldR 66, fldR 67]) from ho)
    clear ho hg ha)
  go_ret
  exact ⟨_, _, rfl, RdF.own (fs := [fldR 68, fldR 65, fldR 66, fldR 67]) HO2.out, HE2.out⟩

set_option maxHeartbeats 2000000 in
set_option maxRecDepth 100000 in
theorem opFields_bin_R (k : Int) (hk : inR k 4 10 = true) (w : World) :
    Calls Try.prog 115 #[.int .i64 k, .func (.func 113) #[] #[]] w (FieldsPost [fldR 68, fldR 65, fldR 66] w) := by
  have H1 : Hd (inR k 4 15 = true) := hd (by rw [inR_iff] at *; omega)
  have H2 : Hd (opdN k = 2) := hd (by rw [inR_iff] at hk; unfold opdN; rw [if_neg (by omega), if_neg (by omega)])
  have h12 : (k == 12) = false := by rw [inR_iff] at hk; simp; omega
  have h13 : (k == 13) = false := by rw [inR_iff] at hk; simp; omega
  have h14 : (k == 14) = false := by rw [inR_iff] at hk; simp; omega
  clear hk
  obtain ⟨i0, hi0, hz0, hz1, hz2⟩ := info_parts (show ((Try.prog).info? 142).map (fun i => (i.zero, i.size, i.bytes)) = some (some (.agg #[.int .u8 0, .string ⟨#[]⟩, .int .i64 0, .int .i64 0]), 4, 40) by kernel_rfl)
  go_enter Try.func115, Try.ntmps115
  go_wp2_with fail
  refine (fldR_any 68 _).mono ?_
  rintro e w1 ⟨rfl, hE1⟩
  go_wp2_with fail
  refine (fldR_any 65 _).mono ?_
  rintro e w2 ⟨rfl, hE2⟩
  have HO0 := hd (own_start (w1 := w2) w.heap.size [fldR 68, fldR 65] 2 rfl (by decide) (by have := (hE1.trans hE2).size; omega))
  have HE0 := hd ((hE1.trans hE2).alloc (.cells (fldCells [fldR 68, fldR 65]).toArray 142))
  clear hE1 hE2
  go_wp2_with fail
  refine (isOp_any _ _).mono ?_
  rintro e w3 ⟨rfl, rfl⟩
  rw [H1.out]
  go_wp2_with fail
  refine (opds_any _ _).mono ?_
  rintro e w3 ⟨rfl, rfl⟩
  rw [H2.out]
  go_wp2_with fail
  refine (fldR_any 66 _).mono ?_
  rintro e wr0 ⟨rfl, hJ0⟩
  go_wp2_with (
    refine wpList_append_lies _ rfl _ _ 138 rfl w.heap.size 142 i0 _ 4 40 Try.underlying138 hi0 hz0 hz1 hz2 rfl (by decide) _ _ _ rfl ((own_ext HO0.out hJ0 (by simp)).alloc _) ⟨wr0.heap.size, 0, none⟩ 1 1 (fldCells [fldR 66]) rfl rfl ?c1 ?c2 (by decide) (by decide) (by decide) ?c5 _ rfl ?_
    case c1 => exact World.news_of_block (Blk.new' _ _ ((fldCells [fldR 66])).toArray _ (by simp))
    case c2 => intro u hu; simp [fldCells, Fld.cells, fldR, fldV] at hu; rcases hu with rfl | rfl | rfl | rfl <;> rfl
    case c5 => have q1 := HE0.out.size; have q2 := Ext.size hJ0; simp at *; omega
    intro g0 cap0 v0 ho hg ha hlt
    have HE1 := hd (grown_ext HE0.out HO0.out (Ext.alloc hJ0 _) hg)
    have HO1 := hd (show v0.ownsRow w.heap.size 142 4 (.slice (some ⟨g0, 0, none⟩) 3 cap0) 3 (fldCells [fldR 68, fldR 65, fldR 66]) from ho)
    clear ho hg ha)
  refine (opds_any _ _).mono ?_
  rintro e w4 ⟨rfl, rfl⟩
  rw [H2.out]
  go_wp2_with fail
  go_ret
  exact ⟨_, _, rfl, RdF.own (fs := [fldR 68, fldR 65, fldR 66]) HO1.out, HE1.out⟩

set_option maxHeartbeats 2000000 in
set_option maxRecDepth 100000 in
theorem opFields_11_R (w : World) :
    Calls Try.prog 115 #[.int .i64 11, .func (.func 113) #[] #[]] w (FieldsPost [fldR 68, fldR 65] w) := by
  have H1 : Hd (inR 11 4 15 = true) := hd rfl
  have H2 : Hd (opdN 11 = 1) := hd rfl
  go_enter Try.func115, Try.ntmps115
  go_wp2_with fail
  refine (fldR_any 68 _).mono ?_
  rintro e w1 ⟨rfl, hE1⟩
  go_wp2_with fail
  refine (fldR_any 65 _).mono ?_
  rintro e w2 ⟨rfl, hE2⟩
  have HO0 := hd (own_start (w1 := w2) w.heap.size [fldR 68, fldR 65] 2 rfl (by decide) (by have := (hE1.trans hE2).size; omega))
  have HE0 := hd ((hE1.trans hE2).alloc (.cells (fldCells [fldR 68, fldR 65]).toArray 142))
  clear hE1 hE2
  go_wp2_with fail
  refine (isOp_any _ _).mono ?_
  rintro e w3 ⟨rfl, rfl⟩
  rw [H1.out]
  go_wp2_with fail
  refine (opds_any _ _).mono ?_
  rintro e w3 ⟨rfl, rfl⟩
  rw [H2.out]
  go_wp2_with fail
  refine (opds_any _ _).mono ?_
  rintro e w4 ⟨rfl, rfl⟩
  rw [H2.out]
  go_wp2_with fail
  go_ret
  exact ⟨_, _, rfl, RdF.blk (fs := [fldR 68, fldR 65]) (Blk.new _ _ _), HE0.out⟩

set_option maxHeartbeats 2000000 in
set_option maxRecDepth 100000 in
theorem opFields_12_R (w : World) :
    Calls Try.prog 115 #[.int .i64 12, .func (.func 113) #[] #[]] w (FieldsPost [fldR 68, fldR 65, ⟨78, ⟨#[]⟩, -2147483648, 2147483647⟩, ⟨77, ⟨#[]⟩, -2147483648, 2147483647⟩] w) := by
  have H1 : Hd (inR 12 4 15 = true) := hd rfl
  have H2 : Hd (opdN 12 = 1) := hd rfl
  obtain ⟨i0, hi0, hz0, hz1, hz2⟩ := info_parts (show ((Try.prog).info? 142).map (fun i => (i.zero, i.size, i.bytes)) = some (some (.agg #[.int .u8 0, .string ⟨#[]⟩, .int .i64 0, .int .i64 0]), 4, 40) by kernel_rfl)
  go_enter Try.func115, Try.ntmps115
  go_wp2_with fail
  refine (fldR_any 68 _).mono ?_
  rintro e w1 ⟨rfl, hE1⟩
  go_wp2_with fail
  refine (fldR_any 65 _).mono ?_
  rintro e w2 ⟨rfl, hE2⟩
  have HO0 := hd (own_start (w1 := w2) w.heap.size [fldR 68, fldR 65] 2 rfl (by decide) (by have := (hE1.trans hE2).size; omega))
  have HE0 := hd ((hE1.trans hE2).alloc (.cells (fldCells [fldR 68, fldR 65]).toArray 142))
  clear hE1 hE2
  go_wp2_with fail
  refine (isOp_any _ _).mono ?_
  rintro e w3 ⟨rfl, rfl⟩
  rw [H1.out]
  go_wp2_with fail
  refine (opds_any _ _).mono ?_
  rintro e w3 ⟨rfl, rfl⟩
  rw [H2.out]
  go_wp2_with fail
  refine (opds_any _ _).mono ?_
  rintro e w4 ⟨rfl, rfl⟩
  rw [H2.out]
  go_wp2_with (
    refine wpList_append_lies _ rfl _ _ 138 rfl w.heap.size 142 i0 _ 4 40 Try.underlying138 hi0 hz0 hz1 hz2 rfl (by decide) _ _ _ rfl ((own_ext HO0.out (Ext.refl [] _) (by simp)).alloc _) ⟨w2.heap.size + 1, 0, none⟩ 2 2 (fldCells [⟨78, ⟨#[]⟩, -2147483648, 2147483647⟩, ⟨77, ⟨#[]⟩, -2147483648, 2147483647⟩]) rfl rfl ?c1 ?c2 (by decide) (by decide) (by decide) ?c5 _ rfl ?_
    case c1 => exact World.news_of_block (Blk.new' _ _ ((fldCells [⟨78, ⟨#[]⟩, -2147483648, 2147483647⟩, ⟨77, ⟨#[]⟩, -2147483648, 2147483647⟩])).toArray _ (by simp))
    case c2 => intro u hu; simp [fldCells, Fld.cells, fldR, fldV] at hu; rcases hu with rfl | rfl | rfl | rfl | rfl | rfl | rfl | rfl <;> rfl
    case c5 => have q1 := HE0.out.size; simp at *; omega
    intro g0 cap0 v0 ho hg ha hlt
    have HE1 := hd (grown_ext HE0.out HO0.out (Ext.alloc (Ext.refl [] _) _) hg)
    have HO1 := hd (show v0.ownsRow w.heap.size 142 4 (.slice (some ⟨g0, 0, none⟩) 4 cap0) 4 (fldCells [fldR 68, fldR 65, ⟨78, ⟨#[]⟩, -2147483648, 2147483647⟩, ⟨77, ⟨#[]⟩, -2147483648, 2147483647⟩]) from ho)
    clear ho hg ha)
  go_ret
  exact ⟨_, _, rfl, RdF.own (fs := [fldR 68, fldR 65, ⟨78, ⟨#[]⟩, -2147483648, 2147483647⟩, ⟨77, ⟨#[]⟩, -2147483648, 2147483647⟩]) HO1.out, HE1.out⟩

set_option maxHeartbeats 2000000 in
set_option maxRecDepth 100000 in
theorem opFields_13_R (w : World) :
    Calls Try.prog 115 #[.int .i64 13, .func (.func 113) #[] #[]] w (FieldsPost [fldR 68, fldR 65, ⟨78, ⟨#[]⟩, 1, 31⟩] w) := by
  have H1 : Hd (inR 13 4 15 = true) := hd rfl
  have H2 : Hd (opdN 13 = 1) := hd rfl
  obtain ⟨i0, hi0, hz0, hz1, hz2⟩ := info_parts (show ((Try.prog).info? 142).map (fun i => (i.zero, i.size, i.bytes)) = some (some (.agg #[.int .u8 0, .string ⟨#[]⟩, .int .i64 0, .int .i64 0]), 4, 40) by kernel_rfl)
  go_enter Try.func115, Try.ntmps115
  go_wp2_with fail
  refine (fldR_any 68 _).mono ?_
  rintro e w1 ⟨rfl, hE1⟩
  go_wp2_with fail
  refine (fldR_any 65 _).mono ?_
  rintro e w2 ⟨rfl, hE2⟩
  have HO0 := hd (own_start (w1 := w2) w.heap.size [fldR 68, fldR 65] 2 rfl (by decide) (by have := (hE1.trans hE2).size; omega))
  have HE0 := hd ((hE1.trans hE2).alloc (.cells (fldCells [fldR 68, fldR 65]).toArray 142))
  clear hE1 hE2
  go_wp2_with fail
  refine (isOp_any _ _).mono ?_
  rintro e w3 ⟨rfl, rfl⟩
  rw [H1.out]
  go_wp2_with fail
  refine (opds_any _ _).mono ?_
  rintro e w3 ⟨rfl, rfl⟩
  rw [H2.out]
  go_wp2_with fail
  refine (opds_any _ _).mono ?_
  rintro e w4 ⟨rfl, rfl⟩
  rw [H2.out]
  go_wp2_with (
    refine wpList_append_lies _ rfl _ _ 138 rfl w.heap.size 142 i0 _ 4 40 Try.underlying138 hi0 hz0 hz1 hz2 rfl (by decide) _ _ _ rfl ((own_ext HO0.out (Ext.refl [] _) (by simp)).alloc _) ⟨w2.heap.size + 1, 0, none⟩ 1 1 (fldCells [⟨78, ⟨#[]⟩, 1, 31⟩]) rfl rfl ?c1 ?c2 (by decide) (by decide) (by decide) ?c5 _ rfl ?_
    case c1 => exact World.news_of_block (Blk.new' _ _ ((fldCells [⟨78, ⟨#[]⟩, 1, 31⟩])).toArray _ (by simp))
    case c2 => intro u hu; simp [fldCells, Fld.cells, fldR, fldV] at hu; rcases hu with rfl | rfl | rfl | rfl <;> rfl
    case c5 => have q1 := HE0.out.size; simp at *; omega
    intro g0 cap0 v0 ho hg ha hlt
    have HE1 := hd (grown_ext HE0.out HO0.out (Ext.alloc (Ext.refl [] _) _) hg)
    have HO1 := hd (show v0.ownsRow w.heap.size 142 4 (.slice (some ⟨g0, 0, none⟩) 3 cap0) 3 (fldCells [fldR 68, fldR 65, ⟨78, ⟨#[]⟩, 1, 31⟩]) from ho)
    clear ho hg ha)
  go_ret
  exact ⟨_, _, rfl, RdF.own (fs := [fldR 68, fldR 65, ⟨78, ⟨#[]⟩, 1, 31⟩]) HO1.out, HE1.out⟩

set_option maxHeartbeats 2000000 in
set_option maxRecDepth 100000 in
theorem opFields_14_R (w : World) :
    Calls Try.prog 115 #[.int .i64 14, .func (.func 113) #[] #[]] w (FieldsPost [fldR 68, fldR 65, ⟨78, ⟨#[]⟩, 1, 2147483647⟩] w) := by
  have H1 : Hd (inR 14 4 15 = true) := hd rfl
  have H2 : Hd (opdN 14 = 1) := hd rfl
  obtain ⟨i0, hi0, hz0, hz1, hz2⟩ := info_parts (show ((Try.prog).info? 142).map (fun i => (i.zero, i.size, i.bytes)) = some (some (.agg #[.int .u8 0, .string ⟨#[]⟩, .int .i64 0, .int .i64 0]), 4, 40) by kernel_rfl)
  go_enter Try.func115, Try.ntmps115
  go_wp2_with fail
  refine (fldR_any 68 _).mono ?_
  rintro e w1 ⟨rfl, hE1⟩
  go_wp2_with fail
  refine (fldR_any 65 _).mono ?_
  rintro e w2 ⟨rfl, hE2⟩
  have HO0 := hd (own_start (w1 := w2) w.heap.size [fldR 68, fldR 65] 2 rfl (by decide) (by have := (hE1.trans hE2).size; omega))
  have HE0 := hd ((hE1.trans hE2).alloc (.cells (fldCells [fldR 68, fldR 65]).toArray 142))
  clear hE1 hE2
  go_wp2_with fail
  refine (isOp_any _ _).mono ?_
  rintro e w3 ⟨rfl, rfl⟩
  rw [H1.out]
  go_wp2_with fail
  refine (opds_any _ _).mono ?_
  rintro e w3 ⟨rfl, rfl⟩
  rw [H2.out]
  go_wp2_with fail
  refine (opds_any _ _).mono ?_
  rintro e w4 ⟨rfl, rfl⟩
  rw [H2.out]
  go_wp2_with (
    refine wpList_append_lies _ rfl _ _ 138 rfl w.heap.size 142 i0 _ 4 40 Try.underlying138 hi0 hz0 hz1 hz2 rfl (by decide) _ _ _ rfl ((own_ext HO0.out (Ext.refl [] _) (by simp)).alloc _) ⟨w2.heap.size + 1, 0, none⟩ 1 1 (fldCells [⟨78, ⟨#[]⟩, 1, 2147483647⟩]) rfl rfl ?c1 ?c2 (by decide) (by decide) (by decide) ?c5 _ rfl ?_
    case c1 => exact World.news_of_block (Blk.new' _ _ ((fldCells [⟨78, ⟨#[]⟩, 1, 2147483647⟩])).toArray _ (by simp))
    case c2 => intro u hu; simp [fldCells, Fld.cells, fldR, fldV] at hu; rcases hu with rfl | rfl | rfl | rfl <;> rfl
    case c5 => have q1 := HE0.out.size; simp at *; omega
    intro g0 cap0 v0 ho hg ha hlt
    have HE1 := hd (grown_ext HE0.out HO0.out (Ext.alloc (Ext.refl [] _) _) hg)
    have HO1 := hd (show v0.ownsRow w.heap.size 142 4 (.slice (some ⟨g0, 0, none⟩) 3 cap0) 3 (fldCells [fldR 68, fldR 65, ⟨78, ⟨#[]⟩, 1, 2147483647⟩]) from ho)
    clear ho hg ha)
  go_ret
  exact ⟨_, _, rfl, RdF.own (fs := [fldR 68, fldR 65, ⟨78, ⟨#[]⟩, 1, 2147483647⟩]) HO1.out, HE1.out⟩

set_option maxHeartbeats 2000000 in
set_option maxRecDepth 100000 in
theorem opFields_else_R (k : Int) (hk : inR k 4 15 = false) (w : World) :
    Calls Try.prog 115 #[.int .i64 k, .func (.func 113) #[] #[]] w (FieldsPost [fldR 68, fldR 65] w) := by
  have H1 : Hd (inR k 4 15 = false) := hd hk
  clear hk
  go_enter Try.func115, Try.ntmps115
  go_wp2_with fail
  refine (fldR_any 68 _).mono ?_
  rintro e w1 ⟨rfl, hE1⟩
  go_wp2_with fail
  refine (fldR_any 65 _).mono ?_
  rintro e w2 ⟨rfl, hE2⟩
  have HO0 := hd (own_start (w1 := w2) w.heap.size [fldR 68, fldR 65] 2 rfl (by decide) (by have := (hE1.trans hE2).size; omega))
  have HE0 := hd ((hE1.trans hE2).alloc (.cells (fldCells [fldR 68, fldR 65]).toArray 142))
  clear hE1 hE2
  go_wp2_with fail
  refine (isOp_any _ _).mono ?_
  rintro e w3 ⟨rfl, rfl⟩
  rw [H1.out]
  go_wp2_with fail
  go_ret
  exact ⟨_, _, rfl, RdF.blk (fs := [fldR 68, fldR 65]) (Blk.new _ _ _), HE0.out⟩

set_option maxHeartbeats 2000000 in
set_option maxRecDepth 100000 in
theorem opFields_15_V (w : World) :
    Calls Try.prog 115 #[.int .i64 15, .func (.func 114) #[] #[]] w (FieldsPost [fldV 68, fldV 65, fldV 66, fldV 67] w) := by
  have H1 : Hd (inR 15 4 15 = true) := hd rfl
  have H2 : Hd (opdN 15 = 3) := hd rfl
  obtain ⟨i0, hi0, hz0, hz1, hz2⟩ := info_parts (show ((Try.prog).info? 142).map (fun i => (i.zero, i.size, i.bytes)) = some (some (.agg #[.int .u8 0, .string ⟨#[]⟩, .int .i64 0, .int .i64 0]), 4, 40) by kernel_rfl)
  go_enter Try.func115, Try.ntmps115
  go_wp2_with fail
  refine (fldV_any 68 _).mono ?_
  rintro e w1 ⟨rfl, hE1⟩
  go_wp2_with fail
  refine (fldV_any 65 _).mono ?_
  rintro e w2 ⟨rfl, hE2⟩
  have HO0 := hd (own_start (w1 := w2) w.heap.size [fldV 68, fldV 65] 2 rfl (by decide) (by have := (hE1.trans hE2).size; omega))
  have HE0 := hd ((hE1.trans hE2).alloc (.cells (fldCells [fldV 68, fldV 65]).toArray 142))
  clear hE1 hE2
  go_wp2_with fail
  refine (isOp_any _ _).mono ?_
  rintro e w3 ⟨rfl, rfl⟩
  rw [H1.out]
  go_wp2_with fail
  refine (opds_any _ _).mono ?_
  rintro e w3 ⟨rfl, rfl⟩
  rw [H2.out]
  go_wp2_with fail
  refine (fldV_any 66 _).mono ?_
  rintro e wr0 ⟨rfl, hJ0⟩
  go_wp2_with (
    refine wpList_append_lies _ rfl _ _ 138 rfl w.heap.size 142 i0 _ 4 40 Try.underlying138 hi0 hz0 hz1 hz2 rfl (by decide) _ _ _ rfl ((own_ext HO0.out hJ0 (by simp)).alloc _) ⟨wr0.heap.size, 0, none⟩ 1 1 (fldCells [fldV 66]) rfl rfl ?c1 ?c2 (by decide) (by decide) (by decide) ?c5 _ rfl ?_
    case c1 => exact World.news_of_block (Blk.new' _ _ ((fldCells [fldV 66])).toArray _ (by simp))
    case c2 => intro u hu; simp [fldCells, Fld.cells, fldR, fldV] at hu; rcases hu with rfl | rfl | rfl | rfl <;> rfl
    case c5 => have q1 := HE0.out.size; have q2 := Ext.size hJ0; simp at *; omega
    intro g0 cap0 v0 ho hg ha hlt
    have HE1 := hd (grown_ext HE0.out HO0.out (Ext.alloc hJ0 _) hg)
    have HO1 := hd (show v0.ownsRow w.heap.size 142 4 (.slice (some ⟨g0, 0, none⟩) 3 cap0) 3 (fldCells [fldV 68, fldV 65, fldV 66]) from ho)
    clear ho hg ha)
  refine (opds_any _ _).mono ?_
  rintro e w4 ⟨rfl, rfl⟩
  rw [H2.out]
  go_wp2_with fail
  refine (fldV_any 67 _).mono ?_
  rintro e wr1 ⟨rfl, hJ1⟩
  go_wp2_with (
    refine wpList_append_lies _ rfl _ _ 138 rfl w.heap.size 142 i0 _ 4 40 Try.underlying138 hi0 hz0 hz1 hz2 rfl (by decide) _ _ _ rfl ((own_ext HO1.out hJ1 (by simp)).alloc _) ⟨wr1.heap.size, 0, none⟩ 1 1 (fldCells [fldV 67]) rfl rfl ?c1 ?c2 (by decide) (by decide) (by decide) ?c5 _ rfl ?_
    case c1 => exact World.news_of_block (Blk.new' _ _ ((fldCells [fldV 67])).toArray _ (by simp))
    case c2 => intro u hu; simp [fldCells, Fld.cells, fldR, fldV] at hu; rcases hu with rfl | rfl | rfl | rfl <;> rfl
    case c5 => have q1 := HE1.out.size; have q2 := Ext.size hJ1; simp at *; omega
    intro g1 cap1 v1 ho hg ha hlt
    have HE2 := hd (grown_ext HE1.out HO1.out (Ext.alloc hJ1 _) hg)
    have HO2 := hd (show v1.ownsRow w.heap.size 142 4 (.slice (some ⟨g1, 0, none⟩) 4 cap1) 4 (fldCells [fldV 68, fldV 65, fldV 66, fldV 67]) from ho)
    clear ho hg ha)
  go_ret
  exact ⟨_, _, rfl, RdF.own (fs := [fldV 68, fldV 65, fldV 66, fldV 67]) HO2.out, HE2.out⟩

set_option maxHeartbeats 2000000 in
set_option maxRecDepth 100000 in
theorem opFields_bin_V (k : Int) (hk : inR k 4 10 = true) (w : World) :
    Calls Try.prog 115 #[.int .i64 k, .func (.func 114) #[] #[]] w (FieldsPost [fldV 68, fldV 65, fldV 66] w) := by
  have H1 : Hd (inR k 4 15 = true) := hd (by rw [inR_iff] at *; omega)
  have H2 : Hd (opdN k = 2) := hd (by rw [inR_iff] at hk; unfold opdN; rw [if_neg (by omega), if_neg (by omega)])
  have h12 : (k == 12) = false := by rw [inR_iff] at hk; simp; omega
  have h13 : (k == 13) = false := by rw [inR_iff] at hk; simp; omega
  have h14 : (k == 14) = false := by rw [inR_iff] at hk; simp; omega
  clear hk
  obtain ⟨i0, hi0, hz0, hz1, hz2⟩ := info_parts (show ((Try.prog).info? 142).map (fun i => (i.zero, i.size, i.bytes)) = some (some (.agg #[.int .u8 0, .string ⟨#[]⟩, .int .i64 0, .int .i64 0]), 4, 40) by kernel_rfl)
  go_enter Try.func115, Try.ntmps115
  go_wp2_with fail
  refine (fldV_any 68 _).mono ?_
  rintro e w1 ⟨rfl, hE1⟩
  go_wp2_with fail
  refine (fldV_any 65 _).mono ?_
  rintro e w2 ⟨rfl, hE2⟩
  have HO0 := hd (own_start (w1 := w2) w.heap.size [fldV 68, fldV 65] 2 rfl (by decide) (by have := (hE1.trans hE2).size; omega))
  have HE0 := hd ((hE1.trans hE2).alloc (.cells (fldCells [fldV 68, fldV 65]).toArray 142))
  clear hE1 hE2
  go_wp2_with fail
  refine (isOp_any _ _).mono ?_
  rintro e w3 ⟨rfl, rfl⟩
  rw [H1.out]
  go_wp2_with fail
  refine (opds_any _ _).mono ?_
  rintro e w3 ⟨rfl, rfl⟩
  rw [H2.out]
  go_wp2_with fail
  refine (fldV_any 66 _).mono ?_
  rintro e wr0 ⟨rfl, hJ0⟩
  go_wp2_with (
    refine wpList_append_lies _ rfl _ _ 138 rfl w.heap.size 142 i0 _ 4 40 Try.underlying138 hi0 hz0 hz1 hz2 rfl (by decide) _ _ _ rfl ((own_ext HO0.out hJ0 (by simp)).alloc _) ⟨wr0.heap.size, 0, none⟩ 1 1 (fldCells [fldV 66]) rfl rfl ?c1 ?c2 (by decide) (by decide) (by decide) ?c5 _ rfl ?_
    case c1 => exact World.news_of_block (Blk.new' _ _ ((fldCells [fldV 66])).toArray _ (by simp))
    case c2 => intro u hu; simp [fldCells, Fld.cells, fldR, fldV] at hu; rcases hu with rfl | rfl | rfl | rfl <;> rfl
    case c5 => have q1 := HE0.out.size; have q2 := Ext.size hJ0; simp at *; omega
    intro g0 cap0 v0 ho hg ha hlt
    have HE1 := hd (grown_ext HE0.out HO0.out (Ext.alloc hJ0 _) hg)
    have HO1 := hd (show v0.ownsRow w.heap.size 142 4 (.slice (some ⟨g0, 0, none⟩) 3 cap0) 3 (fldCells [fldV 68, fldV 65, fldV 66]) from ho)
    clear ho hg ha)
  refine (opds_any _ _).mono ?_
  rintro e w4 ⟨rfl, rfl⟩
  rw [H2.out]
  go_wp2_with fail
  go_ret
  exact ⟨_, _, rfl, RdF.own (fs := [fldV 68, fldV 65, fldV 66]) HO1.out, HE1.out⟩

set_option maxHeartbeats 2000000 in
set_option maxRecDepth 100000 in
theorem opFields_11_V (w : World) :
    Calls Try.prog 115 #[.int .i64 11, .func (.func 114) #[] #[]] w (FieldsPost [fldV 68, fldV 65] w) := by
  have H1 : Hd (inR 11 4 15 = true) := hd rfl
  have H2 : Hd (opdN 11 = 1) := hd rfl
  go_enter Try.func115, Try.ntmps115
  go_wp2_with fail
  refine (fldV_any 68 _).mono ?_
  rintro e w1 ⟨rfl, hE1⟩
  go_wp2_with fail
  refine (fldV_any 65 _).mono ?_
  rintro e w2 ⟨rfl, hE2⟩
  have HO0 := hd (own_start (w1 := w2) w.heap.size [fldV 68, fldV 65] 2 rfl (by decide) (by have := (hE1.trans hE2).size; omega))
  have HE0 := hd ((hE1.trans hE2).alloc (.cells (fldCells [fldV 68, fldV 65]).toArray 142))
  clear hE1 hE2
  go_wp2_with fail
  refine (isOp_any _ _).mono ?_
  rintro e w3 ⟨rfl, rfl⟩
  rw [H1.out]
  go_wp2_with fail
  refine (opds_any _ _).mono ?_
  rintro e w3 ⟨rfl, rfl⟩
  rw [H2.out]
  go_wp2_with fail
  refine (opds_any _ _).mono ?_
  rintro e w4 ⟨rfl, rfl⟩
  rw [H2.out]
  go_wp2_with fail
  go_ret
  exact ⟨_, _, rfl, RdF.blk (fs := [fldV 68, fldV 65]) (Blk.new _ _ _), HE0.out⟩

set_option maxHeartbeats 2000000 in
set_option maxRecDepth 100000 in
theorem opFields_12_V (w : World) :
    Calls Try.prog 115 #[.int .i64 12, .func (.func 114) #[] #[]] w (FieldsPost [fldV 68, fldV 65, ⟨78, ⟨#[]⟩, -2147483648, 2147483647⟩, ⟨77, ⟨#[]⟩, -2147483648, 2147483647⟩] w) := by
  have H1 : Hd (inR 12 4 15 = true) := hd rfl
  have H2 : Hd (opdN 12 = 1) := hd rfl
  obtain ⟨i0, hi0, hz0, hz1, hz2⟩ := info_parts (show ((Try.prog).info? 142).map (fun i => (i.zero, i.size, i.bytes)) = some (some (.agg #[.int .u8 0, .string ⟨#[]⟩, .int .i64 0, .int .i64 0]), 4, 40) by kernel_rfl)
  go_enter Try.func115, Try.ntmps115
  go_wp2_with fail
  refine (fldV_any 68 _).mono ?_
  rintro e w1 ⟨rfl, hE1⟩
  go_wp2_with fail
  refine (fldV_any 65 _).mono ?_
  rintro e w2 ⟨rfl, hE2⟩
  have HO0 := hd (own_start (w1 := w2) w.heap.size [fldV 68, fldV 65] 2 rfl (by decide) (by have := (hE1.trans hE2).size; omega))
  have HE0 := hd ((hE1.trans hE2).alloc (.cells (fldCells [fldV 68, fldV 65]).toArray 142))
  clear hE1 hE2
  go_wp2_with fail
  refine (isOp_any _ _).mono ?_
  rintro e w3 ⟨rfl, rfl⟩
  rw [H1.out]
  go_wp2_with fail
  refine (opds_any _ _).mono ?_
  rintro e w3 ⟨rfl, rfl⟩
  rw [H2.out]
  go_wp2_with fail
  refine (opds_any _ _).mono ?_
  rintro e w4 ⟨rfl, rfl⟩
  rw [H2.out]
  go_wp2_with (
    refine wpList_append_lies _ rfl _ _ 138 rfl w.heap.size 142 i0 _ 4 40 Try.underlying138 hi0 hz0 hz1 hz2 rfl (by decide) _ _ _ rfl ((own_ext HO0.out (Ext.refl [] _) (by simp)).alloc _) ⟨w2.heap.size + 1, 0, none⟩ 2 2 (fldCells [⟨78, ⟨#[]⟩, -2147483648, 2147483647⟩, ⟨77, ⟨#[]⟩, -2147483648, 2147483647⟩]) rfl rfl ?c1 ?c2 (by decide) (by decide) (by decide) ?c5 _ rfl ?_
    case c1 => exact World.news_of_block (Blk.new' _ _ ((fldCells [⟨78, ⟨#[]⟩, -2147483648, 2147483647⟩, ⟨77, ⟨#[]⟩, -2147483648, 2147483647⟩])).toArray _ (by simp))
    case c2 => intro u hu; simp [fldCells, Fld.cells, fldR, fldV] at hu; rcases hu with rfl | rfl | rfl | rfl | rfl | rfl | rfl | rfl <;> rfl
    case c5 => have q1 := HE0.out.size; simp at *; omega
    intro g0 cap0 v0 ho hg ha hlt
    have HE1 := hd (grown_ext HE0.out HO0.out (Ext.alloc (Ext.refl [] _) _) hg)
    have HO1 := hd (show v0.ownsRow w.heap.size 142 4 (.slice (some ⟨g0, 0, none⟩) 4 cap0) 4 (fldCells [fldV 68, fldV 65, ⟨78, ⟨#[]⟩, -2147483648, 2147483647⟩, ⟨77, ⟨#[]⟩, -2147483648, 2147483647⟩]) from ho)
    clear ho hg ha)
  go_ret
  exact ⟨_, _, rfl, RdF.own (fs := [fldV 68, fldV 65, ⟨78, ⟨#[]⟩, -2147483648, 2147483647⟩, ⟨77, ⟨#[]⟩, -2147483648, 2147483647⟩]) HO1.out, HE1.out⟩

set_option maxHeartbeats 2000000 in
set_option maxRecDepth 100000 in
theorem opFields_13_V (w : World) :
    Calls Try.prog 115 #[.int .i64 13, .func (.func 114) #[] #[]] w (FieldsPost [fldV 68, fldV 65, ⟨78, ⟨#[]⟩, 1, 31⟩] w) := by
  have H1 : Hd (inR 13 4 15 = true) := hd rfl
  have H2 : Hd (opdN 13 = 1) := hd rfl
  obtain ⟨i0, hi0, hz0, hz1, hz2⟩ := info_parts (show ((Try.prog).info? 142).map (fun i => (i.zero, i.size, i.bytes)) = some (some (.agg #[.int .u8 0, .string ⟨#[]⟩, .int .i64 0, .int .i64 0]), 4, 40) by kernel_rfl)
  go_enter Try.func115, Try.ntmps115
  go_wp2_with fail
  refine (fldV_any 68 _).mono ?_
  rintro e w1 ⟨rfl, hE1⟩
  go_wp2_with fail
  refine (fldV_any 65 _).mono ?_
  rintro e w2 ⟨rfl, hE2⟩
  have HO0 := hd (own_start (w1 := w2) w.heap.size [fldV 68, fldV 65] 2 rfl (by decide) (by have := (hE1.trans hE2).size; omega))
  have HE0 := hd ((hE1.trans hE2).alloc (.cells (fldCells [fldV 68, fldV 65]).toArray 142))
  clear hE1 hE2
  go_wp2_with fail
  refine (isOp_any _ _).mono ?_
  rintro e w3 ⟨rfl, rfl⟩
  rw [H1.out]
  go_wp2_with fail
  refine (opds_any _ _).mono ?_
  rintro e w3 ⟨rfl, rfl⟩
  rw [H2.out]
  go_wp2_with fail
  refine (opds_any _ _).mono ?_
  rintro e w4 ⟨rfl, rfl⟩
  rw [H2.out]
  go_wp2_with (
    refine wpList_append_lies _ rfl _ _ 138 rfl w.heap.size 142 i0 _ 4 40 Try.underlying138 hi0 hz0 hz1 hz2 rfl (by decide) _ _ _ rfl ((own_ext HO0.out (Ext.refl [] _) (by simp)).alloc _) ⟨w2.heap.size + 1, 0, none⟩ 1 1 (fldCells [⟨78, ⟨#[]⟩, 1, 31⟩]) rfl rfl ?c1 ?c2 (by decide) (by decide) (by decide) ?c5 _ rfl ?_
    case c1 => exact World.news_of_block (Blk.new' _ _ ((fldCells [⟨78, ⟨#[]⟩, 1, 31⟩])).toArray _ (by simp))
    case c2 => intro u hu; simp [fldCells, Fld.cells, fldR, fldV] at hu; rcases hu with rfl | rfl | rfl | rfl <;> rfl
    case c5 => have q1 := HE0.out.size; simp at *; omega
    intro g0 cap0 v0 ho hg ha hlt
    have HE1 := hd (grown_ext HE0.out HO0.out (Ext.alloc (Ext.refl [] _) _) hg)
    have HO1 := hd (show v0.ownsRow w.heap.size 142 4 (.slice (some ⟨g0, 0, none⟩) 3 cap0) 3 (fldCells [fldV 68, fldV 65, ⟨78, ⟨#[]⟩, 1, 31⟩]) from ho)
    clear ho hg ha)
  go_ret
  exact ⟨_, _, rfl, RdF.own (fs := [fldV 68, fldV 65, ⟨78, ⟨#[]⟩, 1, 31⟩]) HO1.out, HE1.out⟩

set_option maxHeartbeats 2000000 in
set_option maxRecDepth 100000 in
theorem opFields_14_V (w : World) :
    Calls Try.prog 115 #[.int .i64 14, .func (.func 114) #[] #[]] w (FieldsPost [fldV 68, fldV 65, ⟨78, ⟨#[]⟩, 1, 2147483647⟩] w) := by
  have H1 : Hd (inR 14 4 15 = true) := hd rfl
  have H2 : Hd (opdN 14 = 1) := hd rfl
  obtain ⟨i0, hi0, hz0, hz1, hz2⟩ := info_parts (show ((Try.prog).info? 142).map (fun i => (i.zero, i.size, i.bytes)) = some (some (.agg #[.int .u8 0, .string ⟨#[]⟩, .int .i64 0, .int .i64 0]), 4, 40) by kernel_rfl)
  go_enter Try.func115, Try.ntmps115
  go_wp2_with fail
  refine (fldV_any 68 _).mono ?_
  rintro e w1 ⟨rfl, hE1⟩
  go_wp2_with fail
  refine (fldV_any 65 _).mono ?_
  rintro e w2 ⟨rfl, hE2⟩
  have HO0 := hd (own_start (w1 := w2) w.heap.size [fldV 68, fldV 65] 2 rfl (by decide) (by have := (hE1.trans hE2).size; omega))
  have HE0 := hd ((hE1.trans hE2).alloc (.cells (fldCells [fldV 68, fldV 65]).toArray 142))
  clear hE1 hE2
  go_wp2_with fail
  refine (isOp_any _ _).mono ?_
  rintro e w3 ⟨rfl, rfl⟩
  rw [H1.out]
  go_wp2_with fail
  refine (opds_any _ _).mono ?_
  rintro e w3 ⟨rfl, rfl⟩
  rw [H2.out]
  go_wp2_with fail
  refine (opds_any _ _).mono ?_
  rintro e w4 ⟨rfl, rfl⟩
  rw [H2.out]
  go_wp2_with (
    refine wpList_append_lies _ rfl _ _ 138 rfl w.heap.size 142 i0 _ 4 40 Try.underlying138 hi0 hz0 hz1 hz2 rfl (by decide) _ _ _ rfl ((own_ext HO0.out (Ext.refl [] _) (by simp)).alloc _) ⟨w2.heap.size + 1, 0, none⟩ 1 1 (fldCells [⟨78, ⟨#[]⟩, 1, 2147483647⟩]) rfl rfl ?c1 ?c2 (by decide) (by decide) (by decide) ?c5 _ rfl ?_
    case c1 => exact World.news_of_block (Blk.new' _ _ ((fldCells [⟨78, ⟨#[]⟩, 1, 2147483647⟩])).toArray _ (by simp))
    case c2 => intro u hu; simp [fldCells, Fld.cells, fldR, fldV] at hu; rcases hu with rfl | rfl | rfl | rfl <;> rfl
    case c5 => have q1 := HE0.out.size; simp at *; omega
    intro g0 cap0 v0 ho hg ha hlt
    have HE1 := hd (grown_ext HE0.out HO0.out (Ext.alloc (Ext.refl [] _) _) hg)
    have HO1 := hd (show v0.ownsRow w.heap.size 142 4 (.slice (some ⟨g0, 0, none⟩) 3 cap0) 3 (fldCells [fldV 68, fldV 65, ⟨78, ⟨#[]⟩, 1, 2147483647⟩]) from ho)
    clear ho hg ha)
  go_ret
  exact ⟨_, _, rfl, RdF.own (fs := [fldV 68, fldV 65, ⟨78, ⟨#[]⟩, 1, 2147483647⟩]) HO1.out, HE1.out⟩

set_option maxHeartbeats 2000000 in
set_option maxRecDepth 100000 in
theorem opFields_else_V (k : Int) (hk : inR k 4 15 = false) (w : World) :
    Calls Try.prog 115 #[.int .i64 k, .func (.func 114) #[] #[]] w (FieldsPost [fldV 68, fldV 65] w) := by
  have H1 : Hd (inR k 4 15 = false) := hd hk
  clear hk
  go_enter Try.func115, Try.ntmps115
  go_wp2_with fail
  refine (fldV_any 68 _).mono ?_
  rintro e w1 ⟨rfl, hE1⟩
  go_wp2_with fail
  refine (fldV_any 65 _).mono ?_
  rintro e w2 ⟨rfl, hE2⟩
  have HO0 := hd (own_start (w1 := w2) w.heap.size [fldV 68, fldV 65] 2 rfl (by decide) (by have := (hE1.trans hE2).size; omega))
  have HE0 := hd ((hE1.trans hE2).alloc (.cells (fldCells [fldV 68, fldV 65]).toArray 142))
  clear hE1 hE2
  go_wp2_with fail
  refine (isOp_any _ _).mono ?_
  rintro e w3 ⟨rfl, rfl⟩
  rw [H1.out]
  go_wp2_with fail
  go_ret
  exact ⟨_, _, rfl, RdF.blk (fs := [fldV 68, fldV 65]) (Blk.new _ _ _), HE0.out⟩
end Go.Proofs.Ytedabpldigcffaa
