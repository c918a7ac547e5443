/- Registers: the walk. Condition: at most 14 lives, of small numbers. -/
import Derived.Test.YtedabpldigcffaaRegE
import Derived.Test.YtedabpldigcffaaCheckE
import Derived.Deep.LoopGhost
namespace Go.Proofs.Ytedabpldigcffaa
open Go.RowKit
set_option linter.unusedSimpArgs false
set_option linter.unusedVariables false

/-- A life that is not right. -/
def badB (ls : List Lf) (j : Nat) : Bool := decide ((lf ls j).fr < 0) || decide ((lf ls j).tt < (lf ls j).fr)
/-- The error of Registers. -/
def regE (ls : List Lf) (count : Int) : Int := if (List.range ls.length).any (badB ls) then 1 else if count < 1 ∨ 64 < count then 9 else if count < (crowdS ls : Int) then 16 else 0
theorem regE_bad {ls : List Lf} {count : Int} {k : Nat} (hk : k < ls.length) (h : badB ls k = true) : regE ls count = 1 := by
  unfold regE
  rw [if_pos]
  rw [List.any_eq_true]
  exact ⟨k, by simpa using hk, h⟩
theorem regE_ok {ls : List Lf} {count : Int} (h : ∀ s, s < ls.length → badB ls s = false) : regE ls count = if count < 1 ∨ 64 < count then 9 else if count < (crowdS ls : Int) then 16 else 0 := by
  unfold regE
  rw [if_neg]
  rw [List.any_eq_true]
  rintro ⟨s, hs, hb⟩
  rw [h s (by simpa using hs)] at hb
  cases hb
theorem right_of {ls : List Lf} (h : ∀ s, s < ls.length → badB ls s = false) : RightL ls := fun j hj => by
  have := h j hj
  unfold badB at this
  simp only [Bool.or_eq_false_iff, decide_eq_false_iff_not] at this
  omega
/-- What Registers answers. -/
def RegsP (ls : List Lf) (n : Nat) (count : Int) (w : World) (e : Ending) (w' : World) : Prop :=
  ((regE ls count ≠ 0 ∧ e = .returned (.tuple #[.slice none 0 0, .int .i64 (regE ls count)])) ∨
    (regE ls count = 0 ∧ ∃ U outs, e = .returned (.tuple #[.slice (some ⟨U, 0, none⟩) n n, .int .i64 0]) ∧ Blk w' U 3 (Nums outs) ∧ GoodR ls outs)) ∧ Ext [] w w'
theorem RegsP.bad {ls : List Lf} {n : Nat} {count c : Int} {w w' : World} (h : regE ls count = c) (hc : c ≠ 0) (hE : Ext [] w w') : RegsP ls n count w (.returned (.tuple #[.slice none 0 0, .int .i64 c])) w' :=
  ⟨.inl ⟨by rw [h]; exact hc, by rw [h]⟩, hE⟩

/-- The first k of the numbers in their order. -/
def fillN (n k : Nat) : Array Nat := (Array.range n).map fun i => if i < k then i else 0
theorem fillN_size (n k : Nat) : (fillN n k).size = n := by simp [fillN]
theorem fillN_all (n : Nat) : fillN n n = Array.range n := by
  apply Array.ext
  · simp [fillN]
  · intro i h1 h2
    simp at h2
    simp [fillN, h2]
theorem fillN_get (n k i : Nat) : (fillN n k)[i]? = if i < n then some (if i < k then i else 0) else none := by
  unfold fillN
  rw [Array.getElem?_map]
  by_cases h : i < n
  · rw [Array.getElem?_eq_getElem (by simpa using h), if_pos h]; simp
  · rw [Array.getElem?_eq_none (by simpa using h), if_neg h]; rfl
theorem fillN_succ (n k : Nat) : (fillN n k).setIfInBounds k k = fillN n (k + 1) := by
  apply Array.ext_getElem?
  intro i
  rw [Array.getElem?_setIfInBounds, fillN_get, fillN_get, fillN_size]
  by_cases hk : k = i
  · subst hk
    by_cases h : k < n
    · rw [if_pos rfl, if_pos h, if_pos h, if_pos (by omega)]
    · rw [if_pos rfl, if_neg h, if_neg h]
  · rw [if_neg hk]
    have : (i < k) = (i < k + 1) := propext (by omega)
    simp only [this]
theorem fillN_zero (n : Nat) : (fillN n 0).map (fun (x : Nat) => Value.int .i64 (x : Int)) = madeCells #[.int .i64 0] n := by
  apply Array.ext
  · simp [fillN, madeCells]
  · intro i h1 h2
    simp [fillN, madeCells, Nat.mod_one]
theorem nums_zero (n : Nat) : Nums (List.replicate n 0) = madeCells #[.int .i64 0] n := by
  apply Array.ext
  · simp [Nums, madeCells]
  · intro i h1 h2
    simp [Nums, madeCells, Nat.mod_one]

/-- The first k lives have registers below a number. -/
def LowC (od : List Nat) (k : Nat) (outs : List Int) (count : Int) : Prop := ∀ t i, t < k → od[t]? = some i → ot outs i < count
theorem LowC.up {ls : List Lf} {od : List Nat} {k x : Nat} {outs : List Int} {count c : Int} (h : LowC od k outs count) (ho : OrdL ls od) (hl : outs.length = ls.length) (hx : od[k]? = some x) : LowC od k (outs.set x c) count := fun t i ht hi => by
  have hxl : x < outs.length := by rw [hl]; exact ho.lt x (List.mem_of_getElem? hx)
  rw [ot_set hxl, if_neg (fun e => by subst e; have := ho.inj hi hx; omega)]
  exact h t i ht hi
theorem low_full {ls : List Lf} {od : List Nat} {outs : List Int} {count : Int} (ho : OrdL ls od) (hg : GoodR ls outs) (h : LowC od ls.length outs count) (hc : 1 ≤ count) : (crowdS ls : Int) ≤ count := by
  have := good_full hg count.toNat (fun i hi => by
    obtain ⟨t, ht, hti⟩ := ho.all i hi
    have := h t i ht hti
    omega)
  omega
theorem OutV.set {w : World} {T U n : Nat} {outs : List Int} (h : OutV w T U n outs) (hTU : T ≠ U) (i : Nat) (c : Int) : OutV (w.setCell ⟨U, i, none⟩ (.int .i64 c)) T U n (outs.set i c) := by
  refine ⟨h.1.far hTU _, ?_, by rw [List.length_set]; exact h.2.2⟩
  have := h.2.1.set_ i (.int .i64 c)
  have e : (Nums outs).setIfInBounds i (.int .i64 c) = Nums (outs.set i c) := by
    unfold Nums
    simp
  rw [e] at this
  exact this

set_option maxHeartbeats 8000000 in
set_option maxRecDepth 100000 in
theorem registers_any (A : Option Addr) (cap n : Nat) (ls : List Lf) (count : Int) (w : World) (h : RdL w A ls) (hx : ls.length = n) (hs : ∀ x ∈ ls, Small x) (hn : n ≤ 14) :
    Calls Try.prog 25 #[.slice A n cap, .int .i64 count] w (RegsP ls n count w) := by
  have HL := hd hx
  have HSM := hd hs
  have HRW := hd (fun W (hE : Ext [] w W) => h.ext hE (by simp))
  have hmk : ∀ W : World, (Instr.makeSlice 22 (.int .i64 n) (.int .i64 n)).run Try.prog W = .ok (.slice (some ⟨W.heap.size, 0, none⟩) n n) (W.alloc (.cells (madeCells #[.int .i64 0] n) 3)) := fun W =>
    run_make_row' 22 3 (.int .i64 0) 8 Try.underlying22 (by kernel_rfl) rfl .i64 .i64 n (by omega) (by omega) W
  clear h hx hs
  have HT := hd (Blk.new w 48 #[.slice A n cap])
  have HE0 := hd ((Ext.refl [] w).alloc (.cells #[.slice A n cap] 48))
  go_enter Try.func25, Try.ntmps25
  go_upto_region 1 with fail
  generalize w.alloc (.cells #[.slice A n cap] 48) = w1 at *
  have HLS : Hd (∀ W, Ext [] w1 W → LsV W w.heap.size ls n) := hd fun W hW => ⟨A, cap, HT.out.ext hW (by simp), HRW.out W (HE0.out.trans hW), HL.out⟩
  have q2 := HT.out.cell
  have q3 := HT.out.lt
  go_wp2_with fail
  go_loopw [18] (fun i wr => ∃ k : Nat, i = .int .i64 k ∧ k ≤ n ∧ Hd (∀ s, s < k → badB ls s = false) ∧ Hd (Ext [] w1 wr)) (fun i _ => (n - intOf i).toNat)
  case atStart => exact ⟨0, rfl, Nat.zero_le _, hd fun s hs => absurd hs (by omega), hd (Ext.refl _ _)⟩
  case round =>
    obtain ⟨k, rfl, hk, HB, HE⟩ := hrel
    by_cases hlt : k < n
    · obtain ⟨b, o, rfl, hb, h0, h1, h2, h3⟩ := (HRW.out wr (HE0.out.trans HE.out)).four (k := k) (by have := HL.out; omega)
      have hbb : badB ls k = (decide ((lf ls k).fr < 0) || decide ((lf ls k).tt < (lf ls k).fr)) := rfl
      have HBB := hd hbb
      clear hbb
      generalize (lf ls k).nd = x0 at h0
      generalize (lf ls k).fr = x1 at h1 HBB
      generalize (lf ls k).tt = x2 at h2 HBB
      generalize (lf ls k).sz = x3 at h3
      by_cases c1 : x1 < 0
      · have HV := hd (regE_bad (ls := ls) (count := count) (k := k) (by rw [HL.out]; exact hlt) (by rw [HBB.out]; simp [c1]))
        go_wp2_with fail
        go_ret2
        exact RegsP.bad HV.out (by decide) ((HE0.out.trans HE.out).alloc _)
      · have c1b : decide (x1 < 0) = false := by simpa using c1
        by_cases c2 : x2 < x1
        · have HV := hd (regE_bad (ls := ls) (count := count) (k := k) (by rw [HL.out]; exact hlt) (by rw [HBB.out]; simp [c2]))
          go_wp2_with fail
          go_ret2
          exact RegsP.bad HV.out (by decide) ((HE0.out.trans HE.out).alloc _)
        · have c2b : decide (x2 < x1) = false := by simpa using c2
          have HV : Hd (badB ls k = false) := hd (by rw [HBB.out]; simp [c1, c2])
          go_wp2_with fail
          go_roundw
          case rel => exact ⟨k + 1, by go_num, by omega, hd (fun s hs => by
            rcases Nat.lt_or_ge s k with h1 | h1
            · exact HB.out s h1
            · have : s = k := by omega
              rw [this]; exact HV.out), hd (HE.out.alloc _)⟩
          case measure => simp [intOf]; omega
    · have hkn : k = n := by omega
      subst hkn
      have HREG : Hd (regE ls count = if count < 1 ∨ 64 < count then 9 else if count < (crowdS ls : Int) then 16 else 0) := hd (regE_ok (fun s hs => HB.out s (by rw [← HL.out]; exact hs)))
      have HRIGHT := hd (right_of (ls := ls) (fun s hs => HB.out s (by rw [← HL.out]; exact hs)))
      by_cases c1 : count < 1
      · have HV : Hd (regE ls count = 9) := hd (by rw [HREG.out, if_pos (.inl c1)])
        go_wp2_with fail
        go_ret2
        exact RegsP.bad HV.out (by decide) (HE0.out.trans HE.out)
      by_cases c2 : 64 < count
      · have c1b : decide (count < 1) = false := by simpa using c1
        have HV : Hd (regE ls count = 9) := hd (by rw [HREG.out, if_pos (.inr c2)])
        go_wp2_with fail
        go_ret2
        exact RegsP.bad HV.out (by decide) (HE0.out.trans HE.out)
      have c1b : decide (count < 1) = false := by simpa using c1
      have c2b : decide (64 < count) = false := by simpa using c2
      have HV2 : Hd (regE ls count = if count < (crowdS ls : Int) then 16 else 0) := hd (by rw [HREG.out, if_neg (by omega)])
      have qq := HT.out.ext HE.out (by simp)
      have q4 := qq.cell
      have q5 := qq.lt
      clear qq HREG
      rename World => wA
      have HNA : Hd (NB (wA.alloc (.cells (madeCells #[.int .i64 0] k) 3)) wA.heap.size (fillN k 0)) := hd (by unfold NB; rw [fillN_zero]; exact Blk.new _ _ _)
      have HEA := hd (HE.out.alloc (.cells (madeCells #[.int .i64 0] k) 3))
      have hwa : w.heap.size < wA.heap.size := q5
      have hwa1 : w1.heap.size ≤ wA.heap.size := HE.out.size
      go_upto_region 12 with fail
      generalize hG : wA.heap.size = G at *
      have HGE := hd hG
      clear hG
      generalize wA.alloc (.cells (madeCells #[.int .i64 0] k) 3) = w2 at *
      go_wp2_with fail
      go_loopw [44] (fun i wr => ∃ j : Nat, i = .int .i64 j ∧ j ≤ k ∧ Hd (NB wr G (fillN k j)) ∧ Hd (Ext [G] w2 wr)) (fun i _ => (k - intOf i).toNat)
      case atStart => exact ⟨0, rfl, Nat.zero_le _, HNA, hd (Ext.refl _ _)⟩
      case round =>
        obtain ⟨j, rfl, hj, HN, HE2⟩ := hrel
        by_cases hlt2 : j < k
        · have q1 := HN.out.cell j (by rw [fillN_size]; exact hlt2)
          have q2 := HN.out.frozen j
          have q3 := HN.out.lt
          go_wp2_with fail
          go_roundw
          case rel => exact ⟨j + 1, by go_num, by omega, hd (by rw [← fillN_succ]; exact HN.out.set j j), hd (HE2.out.setCell (.inl (by simp)) _)⟩
          case measure => simp [intOf]; omega
        · have hjk : j = k := by omega
          subst hjk
          rename World => w3
          have HE3 : Hd (Ext [] w1 w3) := hd (HEA.out.step HE2.out (fun i hi => .inr (by rw [List.mem_singleton.1 hi]; exact hwa1)))
          have HI3 : Hd (InsSt w3 G j j (fillN j j) w3) := hd ⟨fillN_size j j, fun i hi => by
            rw [getElem!_pos _ _ (by rw [fillN_size]; exact hi)]
            simp [fillN, hi], HN.out, Ext.refl _ _⟩
          have hLS3 : ∀ W, Ext [G] w3 W → LsV W w.heap.size ls j := fun W hW => HLS.out W (HE3.out.step hW (fun i hi => .inr (by rw [List.mem_singleton.1 hi]; exact hwa1)))
          have HST := hd (stable_any G w.heap.size j j j ls (fillN j j) w3 HI3.out hLS3 HSM.out (by omega) (by omega))
          have HORD : Hd (OrdL ls (Sort.insertionSort (byFr ls) (fillN j j) 0 j).toList) := hd (by
            have := ordL_of ls
            rw [HL.out] at this
            rw [fillN_all]
            exact this)
          clear hLS3 HNA HN q2 q4
          go_wp2_with fail
          refine HST.out.mono ?_
          rintro e w4 ⟨rfl, hS4⟩
          have HS4 := hd hS4
          clear hS4 HST HI3
          generalize Sort.insertionSort (byFr ls) (fillN j j) 0 j = od at *
          have HE4 : Hd (Ext [] w1 w4) := hd (HE3.out.step HS4.out.ext (fun i hi => .inr (by rw [List.mem_singleton.1 hi]; exact hwa1)))
          have hT4 := HT.out.ext HE4.out (by simp)
          have q4 := hT4.cell
          have q6 := hT4.lt
          have hG4 : G < w4.heap.size := HS4.out.nb.lt
          have hw14 : w1.heap.size ≤ w4.heap.size := HE4.out.size
          clear hT4
          have HU5 : Hd (OutV ((w4.alloc (.cells (madeCells #[.int .i64 0] j) 3)).alloc (.cells #[.slice (some ⟨w4.heap.size, 0, none⟩) j j] 22)) (w4.heap.size + 1) w4.heap.size j (List.replicate j 0)) := hd ⟨Blk.new' _ _ _ _ (by simp), (by rw [nums_zero]; exact (Blk.new _ _ _).alloc _), by simp⟩
          have HE5 := hd ((HE4.out.alloc (.cells (madeCells #[.int .i64 0] j) 3)).alloc (.cells #[.slice (some ⟨w4.heap.size, 0, none⟩) j j] 22))
          have HE45 := hd (((Ext.refl [] w4).alloc (.cells (madeCells #[.int .i64 0] j) 3)).alloc (.cells #[.slice (some ⟨w4.heap.size, 0, none⟩) j j] 22))
          go_upto_region 19 with fail
          generalize hU : w4.heap.size = U at *
          have HUE := hd hU
          clear hU
          generalize (w4.alloc (.cells (madeCells #[.int .i64 0] j) 3)).alloc (.cells #[.slice (some ⟨U, 0, none⟩) j j] 22) = w5 at *
          have HINV : Hd (RegInv ls od.toList 0 (List.replicate j 0)) := hd (by have := RegInv.zero_ HORD.out; rw [HL.out] at this; exact this)
          go_wp2_with fail
          go_loopw [60] (fun i wr => ∃ (k : Nat) (outs : List Int), i = .int .i64 k ∧ k ≤ j ∧ Hd (Ext [U] w5 wr) ∧ Hd (OutV wr (U + 1) U j outs) ∧ Hd (RegInv ls od.toList k outs) ∧ Hd (LowC od.toList k outs count)) (fun i _ => (j - intOf i).toNat)
          case atStart => exact ⟨0, _, rfl, Nat.zero_le _, hd (Ext.refl _ _), HU5, HINV, hd (fun t i ht => absurd ht (by omega))⟩
          case round =>
            obtain ⟨k, outs, rfl, hk5, HE6, HO6, HR6, HL6⟩ := hrel
            rename World => w6
            have hU6 := HO6.out.2.1.lt
            have hT6 := HO6.out.1.lt
            by_cases hlt5 : k < j
            · have hN6 := (HS4.out.nb.ext HE45.out (by simp)).ext HE6.out (by simp; omega)
              have q7 := hN6.cell k (by rw [HS4.out.size]; exact hlt5)
              have q8 := hN6.lt
              have hxb := HS4.out.bd k hlt5
              have hxo : od.toList[k]? = some od[k]! := by
                have : k < od.size := by rw [HS4.out.size]; exact hlt5
                rw [getElem!_pos od k this]; simp [this]
              obtain ⟨x, hx⟩ : ∃ x, x = od[k]! := ⟨_, rfl⟩
              rw [← hx] at q7 hxb hxo
              have HXO := hd hxo
              have HTRY := hd (HR6.out.start hxo)
              have HB7 := hd (Blk.new w6 3 #[.int .i64 (x : Int)])
              have HE7 := hd (HE6.out.alloc (.cells #[.int .i64 (x : Int)] 3))
              have HO7 := hd (HO6.out.ext (w' := w6.alloc (.cells #[.int .i64 (x : Int)] 3)) ((Ext.refl [] _).alloc _) (by simp) (by simp))
              have HL7 := HL6
              clear hN6 hx hxo
              go_upto_region 22 with fail
              have hV7 : w6.heap.size < (w6.alloc (.cells #[.int .i64 (x : Int)] 3)).heap.size := by simp
              have hE67 := hd ((Ext.refl [] w6).alloc (.cells #[.int .i64 (x : Int)] 3))
              generalize hV : w6.heap.size = V at *
              have HVE := hd hV
              clear hV
              generalize w6.alloc (.cells #[.int .i64 (x : Int)] 3) = w7 at *
              go_loopg [] (crowdS ls) (fun g w8 => ∃ (c : Nat) (outs : List Int), Hd (c + g = crowdS ls) ∧ Hd (Ext [U] w7 w8) ∧ Hd (OutV w8 (U + 1) U j outs) ∧ Hd (RegTry ls od.toList k x c outs) ∧ Hd (LowC od.toList k outs count))
              case atStart => exact ⟨0, outs, hd (by omega), hd (Ext.refl _ _), HO7, HTRY, HL7⟩
              case round =>
                obtain ⟨c, out2, HCG, HE8, HO8, HT8, HL8⟩ := hrel
                rename World => w8
                have hU8 := HO8.out.2.1.lt
                have hE58 : Ext [U] w5 w8 := (HE6.out.trans hE67.out.nil).trans HE8.out
                have HE18 : Hd (Ext [] w1 w8) := hd (HE5.out.step hE58 (fun i hi => .inr (by rw [List.mem_singleton.1 hi]; exact hw14)))
                have hN8 := (HS4.out.nb.ext HE45.out (by simp)).ext hE58 (by simp; omega)
                have hBV := HB7.out.ext HE8.out (by simp; omega)
                have hcl := held_lt HRIGHT.out HORD.out HXO.out HT8.out.held
                have hcr := crowdS_le ls
                rw [HL.out] at hcr
                have HHF := hd (hasFunc_any G k j (U + 1) V w.heap.size od (fun q => decide (ot out2 q = ot out2 x) && decide ((lf ls x).fr ≤ (lf ls q).tt)) w8 hN8 (by rw [HS4.out.size]; exact hk5) (by omega)
                  (fun W hW s hs => held_any (U + 1) U V w.heap.size j x od[s]! ls out2 W (HO8.out.ext hW (by simp) (by simp)) (hBV.ext hW (by simp)) (HLS.out W (HE18.out.trans hW)) hxb (HS4.out.bd s (by omega)) (by omega)))
                have HHB : Hd ((od.toList.take k).any (fun q => decide (ot out2 q = ot out2 x) && decide ((lf ls x).fr ≤ (lf ls q).tt)) = heldB ls od.toList k out2 x c) := hd (by unfold heldB; rw [HT8.out.at_])
                have HBV := hd hBV
                have hV8 : V < w8.heap.size := hBV.lt
                clear hN8 hBV hE58
                go_wp2_with fail
                refine HHF.out.mono ?_
                rintro e w9 ⟨rfl, hE9⟩
                rw [HHB.out]
                have HE9 := hd hE9
                have hO9 := HO8.out.ext hE9 (by simp) (by simp)
                have hB9 := HBV.out.ext hE9 (by simp)
                have u1 := hO9.cell x hxb
                rw [HT8.out.at_] at u1
                have u2 := hO9.1.cell 0
                have u3 := hO9.1.lt
                have u4 := hO9.2.1.lt
                have u5 := hO9.2.1.frozen x
                have u6 := hB9.cell 0
                have u7 := hB9.lt
                have HO9 := hd hO9
                clear hE9 hO9 hB9 HHF
                cases hhb : heldB ls od.toList k out2 x c
                · have HR9 := hd (HT8.out.done HRIGHT.out HORD.out HXO.out hhb)
                  by_cases hcc : count ≤ (c : Int)
                  · have HV3 : Hd (regE ls count = 16) := hd (by rw [HV2.out, if_pos (by omega)])
                    go_wp2_with fail
                    go_ret2
                    exact RegsP.bad HV3.out (by decide) ((HE0.out.trans HE18.out).trans HE9.out)
                  · have hccb : decide (count ≤ (c : Int)) = false := by simpa using hcc
                    have HLN : Hd (LowC od.toList (k + 1) out2 count) := hd (fun t i ht hi => by
                      rcases Nat.lt_or_ge t k with h1 | h1
                      · exact HL8.out t i h1 hi
                      · have : t = k := by omega
                        subst this
                        rw [HXO.out] at hi; cases hi
                        rw [HT8.out.at_]; omega)
                    have HEN : Hd (Ext [U] w5 w9) := hd ((((HE6.out.trans hE67.out.nil).trans HE8.out)).trans HE9.out.nil)
                    go_wp2_with fail
                    go_roundw
                    case rel => exact ⟨k + 1, out2, by go_num, by omega, HEN, HO9, HR9, HLN⟩
                    case measure => simp [intOf]; omega
                · have HT9 := hd (HT8.out.up HORD.out HXO.out hhb)
                  have HL9 := hd (HL8.out.up HORD.out HT8.out.len HXO.out (c := (c : Int) + 1))
                  have HO10 := hd (HO9.out.set (by omega) x ((c : Int) + 1))
                  have HE10 : Hd (Ext [U] w7 (w9.setCell ⟨U, x, none⟩ (.int .i64 ((c : Int) + 1)))) := hd ((HE8.out.trans HE9.out.nil).setCell (.inl (by simp)) _)
                  have hgk : c + gk = crowdS ls := HCG.out
                  go_wp2_with fail
                  go_roundg (gk - 1)
                  case measure => omega
                  case rel => exact ⟨c + 1, _, hd (by omega), HE10, HO10, HT9, HL9⟩
            · have hkj : k = j := by omega
              subst hkj
              have hg : GoodR ls outs := RegInv.good (by rw [HL.out]; exact HR6.out) HORD.out
              have hlow := low_full HORD.out hg (by rw [HL.out]; exact HL6.out) (by omega)
              have HV3 : Hd (regE ls count = 0) := hd (by rw [HV2.out, if_neg (by omega)])
              have HG := hd hg
              clear hg
              have HEE : Hd (Ext [] w w6) := hd (HE0.out.trans (HE5.out.step HE6.out (fun i hi => .inr (by rw [List.mem_singleton.1 hi]; exact hw14))))
              have q7 := HO6.out.1.cell 0
              go_wp2_with fail
              go_ret2
              exact ⟨.inr ⟨HV3.out, U, outs, rfl, HO6.out.2.1, HG.out⟩, HEE.out⟩
end Go.Proofs.Ytedabpldigcffaa
