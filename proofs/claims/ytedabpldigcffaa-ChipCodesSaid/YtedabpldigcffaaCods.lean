/- Encode and Decode are as specified: the walk. -/
import Derived.Test.YtedabpldigcffaaCodE
import Derived.Test.YtedabpldigcffaaCoded
import Derived.Test.YtedabpldigcffaaChipK
namespace Go.Proofs.Ytedabpldigcffaa
open Go.RowKit
set_option linter.unusedSimpArgs false
set_option linter.unusedVariables false
attribute [local irreducible] relAt

/-- A stream over the argument. -/
theorem stream_of (A : Option Addr) (len cap : Nat) (w : World) (hlen : len ≤ 9223372036854775807) (hA : 0 < len → ∃ b o, A = some ⟨b, o, none⟩ ∧ b < w.heap.size ∧ ∀ i, i < len → ∃ x, w.cell? ⟨b, o + i, none⟩ = some (.int .i64 x)) :
    Stm (w.alloc (.cells #[.slice A len cap, .int .i64 0] 25)) w.heap.size w.heap.size 1000000000 :=
  ⟨A, len, cap, 0, Blk.new _ _ _, Nat.le_refl _, Int.le_refl _, by omega, hlen, fun h => by
    obtain ⟨b, o, h1, h2, h3⟩ := hA h
    refine ⟨b, o, h1, h2, fun i hi => ?_⟩
    obtain ⟨x, hx⟩ := h3 i hi
    exact ⟨x, ((Ext.refl [] w).alloc _).held hx (by simp)⟩⟩

/-- Block b begins with the ints ws; all its cells can be written. -/
def IntB (w : World) (b : Nat) (ws : List Int) : Prop := ∃ cur, Blk w b 3 cur ∧ ∀ (k : Nat) (x : Int), ws[k]? = some x → cur[k]? = some (Value.int .i64 x)
theorem IntB.ext {S : List Nat} {w w' : World} {b : Nat} {ws : List Int} (h : IntB w b ws) (hE : Ext S w w') (hS : b ∉ S) : IntB w' b ws := by
  obtain ⟨cur, hB, hc⟩ := h
  exact ⟨cur, hB.ext hE hS, hc⟩
theorem IntB.lt {w : World} {b : Nat} {ws : List Int} (h : IntB w b ws) : b < w.heap.size := by obtain ⟨cur, hB, _⟩ := h; exact hB.lt
theorem IntB.cell {w : World} {b : Nat} {ws : List Int} (h : IntB w b ws) {k : Nat} {x : Int} (hx : ws[k]? = some x) : w.cell? ⟨b, k, none⟩ = some (.int .i64 x) := by
  obtain ⟨cur, hB, hc⟩ := h
  rw [hB.cell]; exact hc k x hx
theorem IntB.frozen {w : World} {b : Nat} {ws : List Int} (h : IntB w b ws) (k : Nat) : w.frozen? ⟨b, k, none⟩ = false := by
  obtain ⟨cur, hB, hc⟩ := h; exact hB.frozen k
theorem IntB.rd {w : World} {b : Nat} {ws : List Int} (h : IntB w b ws) (n : Nat) : RdI w (some ⟨b, 0, none⟩) (ws.take n) :=
  .inr ⟨b, 0, rfl, fun k x hx => by
    rw [Nat.zero_add]
    rw [List.getElem?_take] at hx
    split at hx
    · exact h.cell hx
    · cases hx⟩
theorem IntB.rda {w : World} {b : Nat} {ws : List Int} (h : IntB w b ws) : RdI w (some ⟨b, 0, none⟩) ws :=
  .inr ⟨b, 0, rfl, fun k x hx => by rw [Nat.zero_add]; exact h.cell hx⟩
theorem IntB.set {w : World} {b : Nat} {ws : List Int} (h : IntB w b ws) (i : Nat) (y : Int) : IntB (w.setCell ⟨b, i, none⟩ (.int .i64 y)) b (ws.set i y) := by
  obtain ⟨cur, hB, hc⟩ := h
  refine ⟨_, hB.set_ i _, fun k x hx => ?_⟩
  rw [List.getElem?_set] at hx
  by_cases hik : i = k
  · subst hik
    rw [if_pos rfl] at hx
    split at hx
    · rename_i hlt
      cases hx
      have := hc i _ (List.getElem?_eq_getElem hlt)
      have h2 : i < cur.size := (Array.getElem?_eq_some_iff.1 this).1
      simp [h2]
    · cases hx
  · rw [if_neg hik] at hx
    rw [Array.getElem?_setIfInBounds_ne hik]
    exact hc k x hx
theorem IntB.own {w : World} {base b n cap : Nat} {ws : List Int} (h : w.ownsRow base 3 1 (.slice (some ⟨b, 0, none⟩) n cap) n (ws.map (.int .i64))) : IntB w b ws ∧ n ≤ cap := by
  obtain ⟨hl, hx⟩ := h
  rcases hx with ⟨h0, _⟩ | ⟨g', cap', cur, h0, _, hg, hnc, hm, hc, ht⟩
  · cases h0
  · cases h0
    refine ⟨⟨cur, hg, fun k x hx => ?_⟩, hnc⟩
    have h1 : (ws.map (Value.int .i64))[k]? = some (.int .i64 x) := by rw [List.getElem?_map, hx]; rfl
    have hlt : k < n * 1 := by rw [← hl]; exact (List.getElem?_eq_some_iff.1 h1).1
    rw [← ht, List.getElem?_take, if_pos hlt] at h1
    simpa using h1

def Clone0 (w : World) (e : Ending) (w' : World) : Prop := ∃ A cap, e = .returned (.slice A 0 cap) ∧ Ext [] w w'
set_option maxRecDepth 100000 in
theorem cloneInt_none (A : Option Addr) (cap : Nat) (w : World) : Calls Try.prog 30 #[.slice A 0 cap] w (Clone0 w) := by
  cases A with
  | none =>
    have heq : ∀ W : World, (binOp .eql 22 (.slice none 0 cap) (.slice none 0 0)).run Try.prog W = .ok (.bool true) W := fun W => Go.Lib.run_eql_slice_nil (P := Try.prog) (w := W) (h := Try.underlying22) ..
    go_enter Try.func30, Try.ntmps30
    go_wp2_with fail
    go_ret
    exact ⟨_, _, rfl, Ext.refl _ _⟩
  | some a =>
    obtain ⟨i0, hi0, hz0, hz1, hz2⟩ := info_parts (show ((Try.prog).info? 3).map (fun i => (i.zero, i.size, i.bytes)) = some (some (.int .i64 0), 1, 8) by kernel_rfl)
    have heq : ∀ W : World, (binOp .eql 22 (.slice (some a) 0 cap) (.slice none 0 0)).run Try.prog W = .ok (.bool false) W := fun W => Go.Lib.run_eql_slice_nil (P := Try.prog) (w := W) (h := Try.underlying22) ..
    have hB : Blk (w.alloc (.cells #[] 3)) w.heap.size 3 #[] := Blk.new _ _ _
    obtain ⟨w2, hr, hE⟩ : ∃ w2, (∀ ty, (Builtin.append_ #[22, 22] ty #[.slice (some ⟨w.heap.size, 0, none⟩) 0 0, .slice (some a) 0 cap]).run Try.prog (w.alloc (.cells #[] 3)) = .ok (.slice (some ⟨w.heap.size, 0, none⟩) 0 0) w2) ∧ Ext [w.heap.size] (w.alloc (.cells #[] 3)) w2 :=
      ⟨_, fun ty => run_append_room (P := Try.prog) _ 22 ty 3 i0 Try.underlying22 hi0 w.heap.size 0 0 _ hB a 0 cap [] (by simp) (by simp) (by simp) (by omega) (by simp),
        ⟨rfl, rfl, rfl, by simp [World.setRow], fun i _ hi => setRow_other _ _ i _ (by simpa using hi)⟩⟩
    have HE : Hd (Ext [] w w2) := hd (((Ext.refl [] w).alloc _).step hE (fun x hx => .inr (by rw [List.mem_singleton.1 hx]; exact Nat.le_refl _)))
    clear hE hB
    go_enter Try.func30, Try.ntmps30
    go_wp2_with (at_builtin; refine Lib.wpList_append_run _ rfl _ _ _ _ rfl _ _ rfl rfl _ _ (hr _) ?_)
    go_ret
    exact ⟨_, _, rfl, HE.out⟩

def CloneQ (ws : List Int) (n : Nat) (w : World) (e : Ending) (w' : World) : Prop :=
  ∃ A cap, e = .returned (.slice A n cap) ∧ Ext [] w w' ∧ (n = 0 ∨ ∃ g, A = some ⟨g, 0, none⟩ ∧ IntB w' g ws ∧ n ≤ cap ∧ w.heap.size ≤ g)
theorem cloneInt_len (A : Option Addr) (cap n : Nat) (ws : List Int) (w : World) (h : RdI w A ws) (hx : ws.length = n) (hl : n ≤ 1000000) :
    Calls Try.prog 30 #[.slice A n cap] w (CloneQ ws n w) := by
  by_cases h0 : n = 0
  · subst h0
    refine (cloneInt_none A cap w).mono ?_
    rintro e w' ⟨A', cap', rfl, hE⟩
    exact ⟨A', cap', rfl, hE, .inl rfl⟩
  · rcases h with h | ⟨b, o, rfl, hc⟩
    · rw [h] at hx; simp at hx; omega
    · have := cloneInt_any b o cap ws w hc (by omega) (by omega)
      rw [hx] at this
      refine this.mono ?_
      rintro e w' ⟨g, c', rfl, hE, ho⟩
      rw [hx] at ho ⊢
      obtain ⟨h1, h2⟩ := IntB.own ho
      exact ⟨_, c', rfl, hE, .inr ⟨g, rfl, h1, h2, own_base ho g rfl⟩⟩

theorem decAt_len (m : Mc) (ws : List Int) : (decX m ws).length ≤ ws.length := by
  unfold decX
  split
  · cases h : decAt ws (ws.length / 4) with
    | none => simp
    | some xs => have := decAt_length ws _ xs h; simp only [Option.getD_some]; omega
  · simp
/-- A place in a block, below n. -/
def sIx (b n : Nat) : Spec := ⟨Nat, 0, fun k => .pointer (some ⟨b, k, none⟩), fun k _ => k < n⟩
theorem sIx.stays {b n : Nat} {R : World → World → Prop} : ∀ y w w', R w w' → (sIx b n).V y w → (sIx b n).V y w' := fun _ _ _ _ h => h
/-- The words that are read back. -/
def CdSt (g : Nat) (w0 : World) (v : Value) (wx : World) : Prop := Ext [g] w0 wx ∧ ∃ A cap n ws, v = .slice A n cap ∧ RdI wx A ws ∧ ws.length = n ∧ n ≤ 400000 ∧ n ≤ cap

theorem okB_of {m : Mc} {xs : List Ins} (h : checkS m xs = 0) : m.okB = true := by
  cases hk : m.okB with
  | true => rfl
  | false => unfold checkS at h; rw [if_pos hk] at h; cases h
theorem chipFault_len (m : Mc) (A : Option Addr) (cap n : Nat) (xs : List Ins) (w : World) (h : RdC w A xs) (hx : xs.length = n) (hl : n ≤ 100000) :
    Calls Try.prog 23 #[.agg m.cells.toArray, .slice A n cap] w fun e w' => e = .returned (.int .i64 (checkS m xs)) ∧ Ext [] w w' := by
  have := chipFault_any m A cap xs w h (by omega)
  rw [hx] at this
  exact this

set_option maxHeartbeats 8000000 in
set_option maxRecDepth 100000 in
theorem chipCodes_any (A : Option Addr) (len cap : Nat) (w : World) (hlen : len ≤ 9223372036854775807) (hA : 0 < len → ∃ b o, A = some ⟨b, o, none⟩ ∧ b < w.heap.size ∧ ∀ i, i < len → ∃ x, w.cell? ⟨b, o + i, none⟩ = some (.int .i64 x)) :
    Calls Try.prog 6 #[.slice A len cap] w fun e w' => e = .returned (.bool true) ∧ Ext [] w w' := by
  have HST := hd (stream_of A len cap w hlen hA)
  clear hA
  go_enter Try.func6, Try.ntmps6
  go_wp2_with fail
  refine (coded_any w.heap.size w.heap.size 1000 _ (HST.out.less (by omega))).mono ?_
  rintro e w1 ⟨⟨m0, m1, m2, m3, m4⟩, v, len1, rfl, hC, hl1, hE, hS⟩
  obtain ⟨A2, cap2, xs, rfl, hx, hr, hb⟩ := hC
  have HE1 : Hd (Ext [] w w1) := hd (((Ext.refl [] w).alloc _).step hE (fun i hi => .inr (by rw [List.mem_singleton.1 hi]; exact Nat.le_refl _)))
  have HS1 := hd hS
  have hgw1 : w.heap.size < w1.heap.size := hS.lt
  have HB2 : Hd (∀ a, A2 = some a → w.heap.size + 1 ≤ a.block) := hd (fun a ha => by have := hb a ha; simpa using this)
  have HR1 := hd hr
  have HL := hd hx
  clear hE hS hr hb hx
  simp only [Mc.cells]
  have HM2 := hd (Blk.new w1 40 #[.int .i64 m0, .int .i64 m1, .int .i64 m2, .int .i64 m3, .int .i64 m4])
  have HE2 := hd ((Ext.refl [] w1).alloc (.cells #[.int .i64 m0, .int .i64 m1, .int .i64 m2, .int .i64 m3, .int .i64 m4] 40))
  have HS2 := hd (HS1.out.alloc (.cells #[.int .i64 m0, .int .i64 m1, .int .i64 m2, .int .i64 m3, .int .i64 m4] 40))
  go_upto_region 3 with fail
  generalize w1.alloc (.cells #[.int .i64 m0, .int .i64 m1, .int .i64 m2, .int .i64 m3, .int .i64 m4] 40) = w2 at *
  have hA2 : ∀ a, A2 = some a → a.block ∉ [w.heap.size] := fun a ha hm => by have := HB2.out a ha; rw [List.mem_singleton.1 hm] at this; omega
  have HN2 := hd hA2
  clear hA2
  have HRW : Hd (∀ W, Ext [w.heap.size] w2 W → RdC W A2 xs) := hd fun W hW => (HR1.out.ext (HE2.out.nil.trans hW) HN2.out)
  obtain ⟨cv, hcv⟩ : ∃ cv, cv = checkS ⟨m0, m1, m2, m3, m4⟩ xs := ⟨_, rfl⟩
  have HENC := hd (fun W (hW : Ext [w.heap.size] w2 W) => encode_any ⟨m0, m1, m2, m3, m4⟩ A2 cap2 len1 xs W (HRW.out W hW) HL.out (by omega))
  have HCF := hd (fun W (hW : Ext [w.heap.size] w2 W) => chipFault_len ⟨m0, m1, m2, m3, m4⟩ A2 cap2 len1 xs W (HRW.out W hW) HL.out (by omega))
  have HOK : Hd (cv = 0 → (Mc.okB ⟨m0, m1, m2, m3, m4⟩) = true) := hd fun h => okB_of (by rw [← hcv]; exact h)
  simp only [← hcv, Mc.cells] at HENC HCF
  clear hcv
  have qm := HM2.out.cell
  have qml := HM2.out.lt
  go_wp2_with fail
  refine (HENC.out _ (Ext.refl _ _)).mono ?_
  rintro e w3 ⟨v, rfl, ho, hv0, hE3⟩
  have HE3 := hd hE3
  have hm3 := HM2.out.ext hE3 (by simp)
  have HO := hd ho
  have HV0 := hd hv0
  have HM3 := hd hm3
  clear qm qml hE3 ho hv0 hm3
  have qm := HM3.out.cell
  have qml := HM3.out.lt
  go_wp2_with fail
  refine (HCF.out _ HE3.out.nil).mono ?_
  rintro e w4 ⟨rfl, hE4⟩
  have HE4 := hd (HE3.out.trans hE4)
  have HM4 := hd (HM3.out.ext hE4 (by simp))
  have HE34 := hd hE4
  have HEW : Hd (Ext [] w w2) := hd (HE1.out.trans HE2.out)
  clear qm qml hE4 HENC HCF HM3
  by_cases hc0 : cv = 0
  · subst hc0
    have hok := HOK.out rfl
    have HOK1 := hd hok
    have ho := HO.out rfl
    obtain ⟨N, hN⟩ : ∃ N, N = 4 * xs.length := ⟨_, rfl⟩
    have hlen := HL.out
    have hN4 : N ≤ 240000 := by omega
    have HEL : Hd ((encS xs).length = N) := hd (by rw [encS_length, hN])
    rw [← hN] at ho
    obtain ⟨A3, cap3, rfl, hr3⟩ := own_rdi ho HEL.out
    have HR3 := hd hr3
    have HENC2 := hd (fun W (hW : Ext [w.heap.size] w2 W) => encoded_any A2 cap2 len1 xs W (HRW.out W hW) HL.out (by omega))
    have HNE := hd hN
    clear hok HV0 HOK HO ho hr3 hN hlen
    go_wp2_with fail
    refine (chips_any _).mono ?_
    rintro e w5 ⟨rfl, hE5⟩
    have HE5 := hd (HE4.out.trans hE5)
    have HE35 := hd (HE34.out.trans hE5)
    have HM5 := hd (HM4.out.ext hE5 (by simp))
    clear hE5 HE34 HM4 HE4
    go_wp2_with fail
    refine (HENC2.out _ HE5.out.nil).mono ?_
    rintro e w6 ⟨v, rfl, ho, hE6⟩
    rw [← HNE.out] at ho
    obtain ⟨A4, cap4, rfl, hr4⟩ := own_rdi ho HEL.out
    have HR4 := hd hr4
    have HE6 := hd (HE5.out.trans hE6)
    have HE36 := hd (HE35.out.trans hE6)
    have HM6 := hd (HM5.out.ext hE6 (by simp))
    clear ho hr4 hE6 HE5 HE35 HM5
    go_wp2_with fail
    refine (equal_same A3 A4 _ _ N (encS xs) (encS xs) w6 (HR3.out.ext HE36.out (by simp)) HR4.out (by omega) HEL.out HEL.out).mono ?_
    rintro e w7 ⟨rfl, hE7⟩
    rw [show decide (encS xs = encS xs) = true from decide_eq_true rfl]
    have HE7 := hd (HE6.out.trans hE7)
    have HE37 := hd (HE36.out.trans hE7)
    have HM7 := hd (HM6.out.ext hE7 (by simp))
    clear hE7 HE6 HE36 HM6 HR4
    go_wp2_with fail
    refine (cloneInt_len A3 _ N (encS xs) w7 (HR3.out.ext HE37.out (by simp)) HEL.out (by omega)).mono ?_
    rintro e w8 ⟨A5, cap5, rfl, hE8, hcl⟩
    have HE8 := hd (HE7.out.trans hE8)
    have HE78 := hd hE8
    have HCL := hd hcl
    have HS8 := hd (HS2.out.ext HE8.out (by simp) (by simp))
    have hww7 : w1.heap.size < w7.heap.size := HM7.out.lt
    clear hE8 hcl HE37 HR3
    go_upto_if 61 with fail
    go_cut [6] (fun v wx => CdSt w.heap.size w7 v wx)
    case first =>
      by_cases hN0 : N = 0
      · subst hN0
        go_wp2_with fail
        go_meet
        exact ⟨HE78.out.nil, A5, cap5, 0, [], rfl, .inl rfl, rfl, by omega, by omega⟩
      obtain ⟨gb, rfl, hI, hNc, hgb⟩ := HCL.out.resolve_left hN0
      have hNp : 4 ≤ N := by have := HNE.out; omega
      have hgl := hI.lt
      have HI := hd hI
      have hgne : gb ≠ w.heap.size := by omega
      clear hI
      go_wp2_with fail
      refine (next_any w.heap.size w.heap.size 990 5 _ (HS8.out.less (by omega)) (by omega)).mono ?_
      rintro e w9 ⟨s, rfl, ⟨hs0, hs1⟩, hE9, hS9⟩
      have HI9 := hd (HI.out.ext hE9 (by simp; omega))
      have HS9 := hd hS9
      have HE9 := hd (HE78.out.nil.trans hE9)
      have hs5 : s = 0 ∨ s = 1 ∨ s = 2 ∨ s = 3 ∨ s = 4 := by have := hs1 (by omega); omega
      clear hs0 hs1 hE9 hS9
      rcases hs5 with rfl | rfl | rfl | rfl | rfl
      · go_wp2_with fail
        refine (range_any w.heap.size w.heap.size 900 1 4 _ (HS9.out.less (by omega)) (by omega) (by omega)).mono ?_
        rintro e w10 ⟨rk, rfl, ⟨hk0, hk1⟩, hE10, hS10⟩
        obtain ⟨k, rfl⟩ : ∃ k : Nat, rk = k := ⟨rk.toNat, by omega⟩
        have hkN : k ≤ N := by omega
        have hd1 : ((N : Int) - (k : Int)).toNat = N - k := by omega
        have hd2 : (0 : Int) ≤ (N : Int) - (k : Int) := by omega
        have hd3 : (N : Int) - (k : Int) ≤ (cap5 : Int) := by omega
        have HE10 := hd (HE9.out.trans hE10)
        have HI10 := hd (HI9.out.ext hE10 (by simp; omega))
        clear hE10 hS10 hk0 hk1
        go_wp2_with fail
        go_meet
        exact ⟨HE10.out, some ⟨gb, 0, none⟩, cap5, N - k, (encS xs).take (N - k), rfl, HI10.out.rd _, by rw [List.length_take, HEL.out]; omega, by omega, by omega⟩
      · go_wp2_with fail
        refine wp_region_rel 9 (JS w.heap.size w.heap.size 500 w9) (Ext [w.heap.size]) (kinds [(3, sBelow N), (4, sIx gb N), (5, sAny), (7, sNums 10 w.heap.size), (8, sAny)]) (by kernel_rfl) (by kernel_rfl) JS.less ?_ (JS.start (Stm.less HS9.out (by omega))) ?_
        · exact Stays.cons sBelow.stays (Stays.cons sIx.stays (Stays.cons sAny.stays (Stays.cons sNums.stays (Stays.cons sAny.stays Stays.nil))))
        simp only [List.take_succ_cons, List.take_zero, List.drop_succ_cons, List.drop_zero]
        repeat
          refine relAt_det rfl rfl ?_
          apply Exists.intro
          refine ⟨fun wr nr hJ => ?_, ?_⟩
          · skip
            clear hJ
            (go_simp; try go_bits)
            first | rfl | exact ⟨rfl, rfl⟩
          simp only [Act.put, List.setIfInBounds_toArray, List.set_cons_succ, List.set_cons_zero]
        refine rel_below N (by omega) rfl rfl ?_ ?_
        · apply Exists.intro
          apply Exists.intro
          refine ⟨fun wr => ?_, fun wr nr hJ hE => ?_⟩
          · go_simp
            first | exact ⟨rfl, rfl⟩ | rfl
          exact ⟨_, (by omega), next_any w.heap.size w.heap.size _ _ _ hJ (by omega)⟩
        intro (y1 : Int)
        simp only [Act.put, List.setIfInBounds_toArray, List.set_cons_succ, List.set_cons_zero]
        refine relAt_value (sIx gb N) rfl rfl (fun wq nr hJ hf => ?_) ?_
        · have hb : 0 ≤ y1 ∧ y1 < (N : Int) := get_after hf 3 (by kernel_rfl)
          obtain ⟨b0, b1⟩ := hb
          refine ⟨y1.toNat, wq, ?_, (by show y1.toNat < N; omega), hJ.less, Ext.refl _ _⟩
          clear hJ hf
          go_simp
          first | exact ⟨rfl, rfl⟩ | rfl
        intro (k4 : Nat)
        simp only [Act.put, List.setIfInBounds_toArray, List.set_cons_succ, List.set_cons_zero]
        dsimp only [sIx]
        refine relAt_value sAny rfl rfl (fun wq nr hJ hf => ?_) ?_
        · have hk : k4 < N := get_after hf 4 (by kernel_rfl)
          obtain ⟨x0, hx0⟩ : ∃ x, (encS xs)[k4]? = some x := ⟨_, List.getElem?_eq_getElem (by have := HEL.out; omega)⟩
          have q1 := (HI9.out.ext hJ.1 (by simp; omega)).cell hx0
          refine ⟨x0, wq, ?_, trivial, hJ.less, Ext.refl _ _⟩
          clear hJ hf hx0
          go_simp
          first | exact ⟨rfl, rfl⟩ | rfl
        intro (x5 : Int)
        simp only [Act.put, List.setIfInBounds_toArray, List.set_cons_succ, List.set_cons_zero]
        dsimp only [sAny]
        repeat
          refine relAt_det rfl rfl ?_
          apply Exists.intro
          refine ⟨fun wr nr hJ => ?_, ?_⟩
          · skip
            clear hJ
            (go_simp; try go_bits)
            first | rfl | exact ⟨rfl, rfl⟩
          simp only [Act.put, List.setIfInBounds_toArray, List.set_cons_succ, List.set_cons_zero]
        refine rel_nums 10 [1, -1, 64, 4096, 131072, 4194304, 2097152, 32, 65536, 1099511627776] rfl rfl rfl ?_ ?_
        · intro wr
          go_simp
          try first | rfl | exact ⟨rfl, rfl⟩
        intro (z : Nat)
        simp only [Act.put, List.setIfInBounds_toArray, List.set_cons_succ, List.set_cons_zero]
        refine rel_pick 7 z 10 rfl rfl (by kernel_rfl) rfl (by omega) ?_ ?_
        · intro wr
          go_simp
          try first | rfl | exact ⟨rfl, rfl⟩
        intro (y8 : Int)
        simp only [Act.put, List.setIfInBounds_toArray, List.set_cons_succ, List.set_cons_zero]
        refine relAt_nil (fun w10 hJ hF => ?_)
        have hb : 0 ≤ y1 ∧ y1 < (N : Int) := hF 3
        obtain ⟨i, rfl⟩ : ∃ k : Nat, y1 = k := ⟨y1.toNat, by omega⟩
        have hiN : i < N := by omega
        have HE10 := hd (HE9.out.trans hJ.1)
        have HI10 := hd (HI9.out.ext hJ.1 (by simp; omega))
        obtain ⟨y0, hy0⟩ : ∃ x, (encS xs)[i]? = some x := ⟨_, List.getElem?_eq_getElem (by have := HEL.out; omega)⟩
        have q1 := HI10.out.cell hy0
        have q2 := HI10.out.frozen i
        have q3 := HI10.out.lt
        clear hJ hF hb hy0
        go_wp2_with fail
        go_meet
        exact ⟨HE10.out.setCell (.inr hgb) _, some ⟨gb, 0, none⟩, cap5, N, (encS xs).set i (wrap64 (x5 + y8)), rfl, (HI10.out.set i _).rda, by rw [List.length_set, HEL.out], by omega, by omega⟩
      · go_wp2_with fail
        refine (next_any w.heap.size w.heap.size 900 N _ (HS9.out.less (by omega)) (by omega)).mono ?_
        rintro e w10 ⟨ri, rfl, ⟨hi0, hi1⟩, hE10, hS10⟩
        obtain ⟨i, rfl⟩ : ∃ k : Nat, ri = k := ⟨ri.toNat, by omega⟩
        have hiN : i < N := by have := hi1 (by omega); omega
        have HE10 := hd (HE9.out.trans hE10)
        have HI10 := hd (HI9.out.ext hE10 (by simp; omega))
        have HS10 := hd hS10
        have hw10 : gb < w10.heap.size := HI10.out.lt
        have hg10 : w.heap.size < w10.heap.size := hS10.lt
        clear hE10 hS10 hi0 hi1
        go_wp2_with fail
        refine (pick_any w.heap.size w.heap.size 800 w10.heap.size 5 3 [0, -1, 2147483648, -2147483648, 4611686018427387904] _ ((HS10.out.less (by omega)).alloc _) (Blk.new _ _ _) (by omega) (by decide)).mono ?_
        rintro e w11 ⟨y, rfl, _, hE11, hS11⟩
        have hEE := ((Ext.refl [w.heap.size] w10).alloc (.cells (Nums [0, -1, 2147483648, -2147483648, 4611686018427387904]) 3)).trans hE11
        have HE11 := hd (HE10.out.trans hEE)
        have HI11 := hd (HI10.out.ext hEE (by simp; omega))
        obtain ⟨y0, hy0⟩ : ∃ x, (encS xs)[i]? = some x := ⟨_, List.getElem?_eq_getElem (by have := HEL.out; omega)⟩
        have q1 := HI11.out.cell hy0
        have q2 := HI11.out.frozen i
        have q3 := HI11.out.lt
        clear hE11 hS11 hEE hy0
        go_wp2_with fail
        go_meet
        exact ⟨HE11.out.setCell (.inr (by omega)) _, some ⟨gb, 0, none⟩, cap5, N, (encS xs).set i y, rfl, (HI11.out.set i y).rda, by rw [List.length_set, HEL.out], by omega, by omega⟩
      · go_wp2_with fail
        go_meet
        exact ⟨HE9.out, some ⟨gb, 0, none⟩, cap5, N, encS xs, rfl, HI9.out.rda, HEL.out, by omega, by omega⟩
      · go_wp2_with fail
        go_meet
        exact ⟨HE9.out, some ⟨gb, 0, none⟩, cap5, N, encS xs, rfl, HI9.out.rda, HEL.out, by omega, by omega⟩
    case rest =>
      obtain ⟨hEc, Ac, capc, nc, ws, rfl, hrd, hxl, hnl, hnc⟩ := hcut
      have HEc := hd hEc
      have HMc := hd (HM7.out.ext hEc (by simp; omega))
      have HDEC := hd (fun W (hW : Ext [] wc W) => decode_any ⟨m0, m1, m2, m3, m4⟩ Ac capc nc ws W HOK1.out (hrd.ext hW (by simp)) hxl hnl)
      have HDED := hd (fun W (hW : Ext [] wc W) => decoded_any ⟨m0, m1, m2, m3, m4⟩ Ac capc nc ws W HOK1.out (hrd.ext hW (by simp)) hxl hnl hnc)
      have hdl : (decX ⟨m0, m1, m2, m3, m4⟩ ws).length ≤ 400000 := by have := decAt_len ⟨m0, m1, m2, m3, m4⟩ ws; omega
      have HDL := hd hdl
      simp only [Mc.cells] at HDEC HDED
      have qm := HMc.out.cell
      have qml := HMc.out.lt
      clear hEc hrd hxl hdl
      go_wp2_with fail
      refine (HDEC.out _ (Ext.refl _ _)).mono ?_
      rintro e w9 ⟨A6, cap6, rfl, hr6, hE9⟩
      have HE9 := hd hE9
      have HR6 := hd hr6
      have hm9 := HMc.out.ext hE9 (by simp)
      have HM9 := hd hm9
      clear qm qml hE9 hr6 hm9
      have qm := HM9.out.cell
      have qml := HM9.out.lt
      obtain ⟨L, hL⟩ : ∃ L, L = (decX ⟨m0, m1, m2, m3, m4⟩ ws).length := ⟨_, rfl⟩
      obtain ⟨E, hE⟩ : ∃ E, E = decE ⟨m0, m1, m2, m3, m4⟩ ws := ⟨_, rfl⟩
      simp only [← hL, ← hE]
      have HLL := hd hL
      have HEE := hd hE
      clear hL hE
      go_wp2_with fail
      refine (HDED.out _ HE9.out).mono ?_
      rintro e w10 ⟨A7, cap7, rfl, hr7, hE10⟩
      rw [← HLL.out, ← HEE.out]
      have HE10 := hd (HE9.out.trans hE10)
      have HR7 := hd hr7
      have HR60 := hd (HR6.out.ext hE10 (by simp))
      clear hE10 hr7 qm qml
      go_wp2_with fail
      refine (equal_code A6 A7 _ _ L (decX ⟨m0, m1, m2, m3, m4⟩ ws) w10 HR60.out HR7.out (by have := HDL.out; have := HLL.out; omega) HLL.out.symm).mono ?_
      rintro e w11 ⟨rfl, hE11⟩
      have HE11 := hd (HE10.out.trans hE11)
      clear hE11
      go_wp2_with fail
      go_ret
      exact ⟨ret_bool (by simp), ((HEW.out.trans HE7.out).step HEc.out (fun i hi => .inr (by rw [List.mem_singleton.1 hi]; exact Nat.le_refl _))).trans HE11.out⟩
  · have hb : (cv != 0) = true := by simpa using hc0
    obtain rfl := HV0.out hc0
    clear hc0
    go_wp2_with fail
    refine (chips_any _).mono ?_
    rintro e w5 ⟨rfl, hE5⟩
    have HE5 := hd (HE4.out.trans hE5)
    clear hE5
    go_wp2_with fail
    go_ret
    exact ⟨ret_bool (by simp), HEW.out.trans HE5.out⟩
end Go.Proofs.Ytedabpldigcffaa
