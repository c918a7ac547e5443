/- Decoded: the walk. Condition: the machine is right; the slice reads as a list of ints. -/
import Derived.Test.YtedabpldigcffaaCodD
import Derived.Test.YtedabpldigcffaaRefI
import Derived.Laws.BitsLemmas
namespace Go.Proofs.Ytedabpldigcffaa
open Go.RowKit
set_option linter.unusedSimpArgs false
set_option linter.unusedVariables false
attribute [local irreducible] relAt

theorem mask63 (n : Int) : bits .and .i64 n 63 = n % 64 := by
  have h127 : (BitVec.ofInt 64 63).toNat = 2 ^ 6 - 1 := by decide
  have key : (BitVec.ofInt 64 n &&& BitVec.ofInt 64 63).toNat = (n % ((2 ^ 64 : Nat) : Int)).toNat % 2 ^ 6 := by
    rw [BitVec.toNat_and, BitVec.toNat_ofInt, h127, Nat.and_two_pow_sub_one_eq_mod]
  show IntKind.i64.wrap ((BitVec.ofInt 64 n &&& BitVec.ofInt 64 63).toNat : Nat) = n % 64
  rw [key, IntKind.wrap_i64]
  omega
theorem mask31 (n : Int) : bits .and .i64 n 31 = n % 32 := by
  have h127 : (BitVec.ofInt 64 31).toNat = 2 ^ 5 - 1 := by decide
  have key : (BitVec.ofInt 64 n &&& BitVec.ofInt 64 31).toNat = (n % ((2 ^ 64 : Nat) : Int)).toNat % 2 ^ 5 := by
    rw [BitVec.toNat_and, BitVec.toNat_ofInt, h127, Nat.and_two_pow_sub_one_eq_mod]
  show IntKind.i64.wrap ((BitVec.ofInt 64 n &&& BitVec.ofInt 64 31).toNat : Nat) = n % 32
  rw [key, IntKind.wrap_i64]
  omega
theorem mask2047 (n : Int) : bits .and .i64 n 2047 = n % 2048 := by
  have h127 : (BitVec.ofInt 64 2047).toNat = 2 ^ 11 - 1 := by decide
  have key : (BitVec.ofInt 64 n &&& BitVec.ofInt 64 2047).toNat = (n % ((2 ^ 64 : Nat) : Int)).toNat % 2 ^ 11 := by
    rw [BitVec.toNat_and, BitVec.toNat_ofInt, h127, Nat.and_two_pow_sub_one_eq_mod]
  show IntKind.i64.wrap ((BitVec.ofInt 64 n &&& BitVec.ofInt 64 2047).toNat : Nat) = n % 2048
  rw [key, IntKind.wrap_i64]
  omega

theorem word2_any (n : Int) (w : World) : Calls Try.prog 64 #[.int .i64 n] w fun e w' => e = .returned (.bool (inR n (-2147483648) 2147483647)) ∧ w = w' := by
  go_enter Try.func64, Try.ntmps64
  go_wp2_with (go_at_call 53; refine (within2_any _ _ _ _).mono ?_; rintro e w' ⟨rfl, rfl⟩)
  go_ret
  exact ⟨rfl, rfl⟩
theorem codeFault_len (m : Mc) (A : Option Addr) (cap n : Nat) (xs : List Ins) (w : World) (hok : m.okB = true) (h : RdC w A xs) (hx : xs.length = n) (hl : n ≤ 100000) :
    Calls Try.prog 58 #[.agg m.cells.toArray, .slice A n cap] w fun e w' => e = .returned (.int .i64 (checkS m xs)) ∧ Ext [] w w' := by
  have := codeFault_any m A cap xs w hok h (by omega)
  rw [hx] at this
  exact this
theorem own_rdi {w : World} {B n : Nat} {v : Value} {xs : List Int} (h : w.ownsRow B 3 1 v n (xs.map (.int .i64))) (hx : xs.length = n) : ∃ A cap, v = .slice A n cap ∧ RdI w A xs := by
  rcases h.2 with ⟨rfl, h0⟩ | ⟨g, cap, cur, rfl, hb, hg, hnc, _⟩
  · exact ⟨none, 0, by rw [h0], .inl (List.eq_nil_of_length_eq_zero (by omega))⟩
  · exact ⟨_, cap, rfl, .inr ⟨g, 0, rfl, fun k x hxk => by rw [Nat.zero_add]; exact row_cells h _ _ (by rw [List.getElem?_map, hxk]; rfl)⟩⟩
/-- A new block with one instruction, as a slice. -/
def sOneI (x : Ins) : Spec := ⟨Nat, 0, fun b => .slice (some ⟨b, 0, none⟩) 1 1, fun b w => Blk w b 64 (codeCells [x]).toArray⟩
theorem sOneI.stays {x : Ins} : ∀ y w w', Ext [] w w' → (sOneI x).V y w → (sOneI x).V y w' := fun _ _ _ hE h => h.ext hE List.not_mem_nil
/-- The words of an instruction. -/
def sEnc (x : Ins) : Spec := ⟨Option Addr × Nat, (none, 0), fun a => .slice a.1 4 a.2, fun a w => RdI w a.1 (wordsS x)⟩
theorem sEnc.stays {x : Ins} : ∀ y w w', Ext [] w w' → (sEnc x).V y w → (sEnc x).V y w' := fun _ _ _ hE h => h.ext hE (fun a _ => List.not_mem_nil)

set_option maxHeartbeats 4000000 in
set_option maxRecDepth 100000 in
theorem decoded_any (m : Mc) (A : Option Addr) (cap n : Nat) (ws : List Int) (w : World) (hm : m.okB = true) (h : RdI w A ws) (hx : ws.length = n) (hl : n ≤ 400000) (hcap : n ≤ cap) :
    Calls Try.prog 33 #[.agg m.cells.toArray, .slice A n cap] w (DecP m ws w) := by
  obtain ⟨i0, hi0, hz0, hz1, hz2⟩ := info_parts Try.info64
  have HA := hd h
  have HL := hd hx
  obtain ⟨m0, m1, m2, m3, m4⟩ := m
  have HOKM := hd hm
  simp only [Mc.cells]
  clear h hx hm
  go_enter Try.func33, Try.ntmps33
  have HM1 := hd (Blk.new w 40 #[.int .i64 m0, .int .i64 m1, .int .i64 m2, .int .i64 m3, .int .i64 m4])
  have HE1 := hd ((Ext.refl [] w).alloc (.cells #[.int .i64 m0, .int .i64 m1, .int .i64 m2, .int .i64 m3, .int .i64 m4] 40))
  go_upto_region 1 with fail
  generalize w.alloc (.cells #[.int .i64 m0, .int .i64 m1, .int .i64 m2, .int .i64 m3, .int .i64 m4] 40) = w1 at *
  have hwl : w.heap.size < w1.heap.size := HM1.out.lt
  by_cases h4 : n % 4 = 0
  · have hb : ((n : Int) % 4 != 0) = false := by simp; omega
    have H4 := hd h4
    clear h4
    go_wp2_with fail
    go_loopw [6, 7] (fun v i wr => ∃ j i0 : Nat, i = .int .i64 i0 ∧ Hd (i0 = 4 * j) ∧ i0 ≤ n ∧ Hd (Ext [] w1 wr) ∧ Hd (DecSt ws w1.heap.size j v wr)) (fun _ i _ => (n - intOf i).toNat)
    case atStart => exact ⟨0, 0, rfl, hd rfl, by omega, hd (Ext.refl _ _), hd ⟨[], rfl, rfl, .inl ⟨rfl, rfl⟩⟩⟩
    case round =>
      obtain ⟨j, i, rfl, HI, hj, HE, HD⟩ := hrel
      by_cases hlt : i < n
      · have hi3 : i + 3 < n := by have := H4.out; have := HI.out; omega
        obtain ⟨p, hp⟩ : ∃ x, ws[i]? = some x := ⟨_, List.getElem?_eq_getElem (l := ws) (i := i) (by have := HL.out; omega)⟩
        obtain ⟨q, hq⟩ : ∃ x, ws[i + 1]? = some x := ⟨_, List.getElem?_eq_getElem (l := ws) (i := i + 1) (by have := HL.out; omega)⟩
        obtain ⟨r, hr⟩ : ∃ x, ws[i + 2]? = some x := ⟨_, List.getElem?_eq_getElem (l := ws) (i := i + 2) (by have := HL.out; omega)⟩
        obtain ⟨s, hs⟩ : ∃ x, ws[i + 3]? = some x := ⟨_, List.getElem?_eq_getElem (l := ws) (i := i + 3) (by have := HL.out; omega)⟩
        rcases HA.out.ext (HE1.out.trans HE.out) (by simp) with h0 | ⟨b, o, rfl, hc⟩
        · have := HL.out; simp [h0] at this; omega
        have c0 := hc i _ hp
        have c1 := hc (i + 1) _ hq
        have c2 := hc (i + 2) _ hr
        have c3 := hc (i + 3) _ hs
        have HP := hd hp
        have HQ := hd hq
        have HR := hd hr
        have HS := hd hs
        have hw1 : IntKind.i64.wrap ((i : Int) + 1) = (i : Int) + 1 := by rw [IntKind.wrap_i64]; omega
        have hw2 : IntKind.i64.wrap ((i : Int) + 2) = (i : Int) + 2 := by rw [IntKind.wrap_i64]; omega
        have hw3 : IntKind.i64.wrap ((i : Int) + 3) = (i : Int) + 3 := by rw [IntKind.wrap_i64]; omega
        have ht1 : ((i : Int) + 1).toNat = i + 1 := by omega
        have ht2 : ((i : Int) + 2).toNat = i + 2 := by omega
        have ht3 : ((i : Int) + 3).toNat = i + 3 := by omega
        have hb1 : (i : Int) + 1 < (n : Int) := by omega
        have hb2 : (i : Int) + 2 < (n : Int) := by omega
        have hb3 : (i : Int) + 3 < (n : Int) := by omega
        have hn1 : (0 : Int) ≤ (i : Int) + 1 := by omega
        clear hc hp hq hr hs
        go_wp2_with fail
        go_quiet (fail)
        have HDO : Hd (∃ xs, decAt ws j = some xs ∧ wr.ownsRow w1.heap.size 64 9 u6 j (codeCells xs)) := hd HD.out
        have HBAD : Hd (okW p q r s = false → ∀ W, Ext [] w W → DecP ⟨m0, m1, m2, m3, m4⟩ ws w (.returned (.tuple #[.slice none 0 0, .int .i64 3])) W) := hd fun hk W hW => by
          obtain ⟨xs, hxs, _⟩ := HD.out
          have hi4 := HI.out
          have hlen := HL.out
          have h44 := H4.out
          have := decAt_bad ws j xs p q r s hxs (by rw [← hi4]; exact HP.out) (by rw [← hi4]; exact HQ.out) (by rw [← hi4]; exact HR.out) (by rw [← hi4]; exact HS.out) hk (by omega)
          rcases this with h1 | h1
          · exact DecP.bad (decE_none (by omega) h1) (by decide) hW
          · exact absurd (by omega) h1
        go_wp2_with fail
        have K2 : Hd (∀ W, Ext [] (wr.drewN nq) W → W.cell? ⟨b, o + (i + 2), none⟩ = some (.int .i64 r)) := hd fun W hW => hW.held (p := ⟨b, o + (i + 2), none⟩) (show (wr.drewN nq).cell? ⟨b, o + (i + 2), none⟩ = _ from c2) (by simp)
        have K3 : Hd (∀ W, Ext [] (wr.drewN nq) W → W.cell? ⟨b, o + (i + 3), none⟩ = some (.int .i64 s)) := hd fun W hW => hW.held (p := ⟨b, o + (i + 3), none⟩) (show (wr.drewN nq).cell? ⟨b, o + (i + 3), none⟩ = _ from c3) (by simp)
        have HRD : Hd (∀ W, Ext [] wr W → RdI W (some ⟨b, o + i, none⟩) [p, q, r, s]) := hd fun W hW => .inr ⟨b, o + i, rfl, fun t x ht => by
          match t, ht with
          | 0, ht => cases ht; exact hW.held c0 (by simp)
          | 1, ht => cases ht; rw [Nat.add_assoc]; exact hW.held c1 (by simp)
          | 2, ht => cases ht; rw [Nat.add_assoc]; exact hW.held c2 (by simp)
          | 3, ht => cases ht; rw [Nat.add_assoc]; exact hW.held c3 (by simp)⟩
        have hbl : b < wr.heap.size := World.block_lt_of_cell? wr ⟨b, _, none⟩ c2
        clear c0 c1 c2 c3
        refine wp_region_rel 32 (JE (wr.drewN nq)) (Ext []) (kinds [(31, sNewZ wr.heap.size)]) (by kernel_rfl) (by kernel_rfl) JE.less ?_ JE.start ?_
        · exact Stays.cons sNewZ.stays Stays.nil
        simp only [List.take_succ_cons, List.take_zero, List.drop_succ_cons, List.drop_zero]
        repeat
          refine relAt_det rfl rfl ?_
          apply Exists.intro
          refine ⟨fun wr nr hJ => ?_, ?_⟩
          · have k2 := K2.out _ hJ; have k3 := K3.out _ hJ; have b1 := mask63; have b2 := mask31; have b3 := mask2047
            clear hJ
            (go_simp; try go_bits)
            first | rfl | exact ⟨rfl, rfl⟩
          simp only [Act.put, List.setIfInBounds_toArray, List.set_cons_succ, List.set_cons_zero]
        refine relAt_value (sNewZ wr.heap.size) rfl rfl (fun wq nr hJ _ => ?_) ?_
        · refine ⟨wq.heap.size, wq.alloc (.cells #[.int .i64 0, .int .i64 0, .int .i64 0, .int .i64 0, .int .i64 0, .int .i64 0, .int .i64 0, .int .i64 0, .int .i64 0] 64), ?_, ⟨Blk.new _ _ _, ?_⟩, hJ.alloc _, (Ext.refl _ _).alloc _⟩
          · clear hJ
            go_simp
            first | exact ⟨rfl, rfl⟩ | rfl
          · have := hJ.size; simpa using this
        intro (bx : Nat)
        simp only [Act.put, List.setIfInBounds_toArray, List.set_cons_succ, List.set_cons_zero]
        dsimp only [sNewZ]
        refine relAt_nil (fun w5 hJ hF => ?_)
        have hbx : Blk w5 bx 64 #[.int .i64 0, .int .i64 0, .int .i64 0, .int .i64 0, .int .i64 0, .int .i64 0, .int .i64 0, .int .i64 0, .int .i64 0] ∧ wr.heap.size ≤ bx := hF 31
        obtain ⟨hB5, hbx2⟩ := hbx
        have HB5 := hd hB5
        have qb := hB5.cell
        have qf := hB5.frozen
        have ql := hB5.lt
        have HJ := hd hJ
        clear hB5 hF hJ
        go_upto_region 9 with fail
        have HB6 := hd (HB5.out.all9 (.int .i64 (p % 64)) (.int .i64 (p / 64 % 64)) (.int .i64 (p / 4096 % 32)) (.int .i64 (p / 131072 % 32)) (.int .i64 (q % 32)) (.int .i64 (q / 32 % 2048 - 1024)) (.int .i64 (q / 65536 % 32)) (.int .i64 r) (.int .i64 s))
        have HJ2 : Hd (Ext [] wr w5) := hd ((Ext.refl [] wr).drewN nq |>.trans HJ.out)
        have HE6 := hd (Ext.setAt9 HJ2.out (b := bx) (.inr hbx2) (.int .i64 (p % 64)) (.int .i64 (p / 64 % 64)) (.int .i64 (p / 4096 % 32)) (.int .i64 (p / 131072 % 32)) (.int .i64 (q % 32)) (.int .i64 (q / 32 % 2048 - 1024)) (.int .i64 (q / 65536 % 32)) (.int .i64 r) (.int .i64 s))
        clear HJ HJ2 HB5 K2 K3 qb qf ql
        generalize (((((((((w5.setCell ⟨bx, 0, none⟩ (.int .i64 (p % 64))).setCell ⟨bx, 1, none⟩ (.int .i64 (p / 64 % 64))).setCell ⟨bx, 2, none⟩ (.int .i64 (p / 4096 % 32))).setCell ⟨bx, 3, none⟩ (.int .i64 (p / 131072 % 32))).setCell ⟨bx, 4, none⟩ (.int .i64 (q % 32))).setCell ⟨bx, 5, none⟩ (.int .i64 (q / 32 % 2048 - 1024))).setCell ⟨bx, 6, none⟩ (.int .i64 (q / 65536 % 32))).setCell ⟨bx, 7, none⟩ (.int .i64 r)).setCell ⟨bx, 8, none⟩ (.int .i64 s)) = w6 at *
        have hi4n : i + 4 ≤ cap := by omega
        have hci : ¬ cap = i := by omega
        have hw4 : IntKind.i64.wrap ((i : Int) + 4) = (i : Int) + 4 := by rw [IntKind.wrap_i64]; omega
        have ht4 : ((i : Int) + 4).toNat = i + 4 := by omega
        have hb4 : (i : Int) + 4 ≤ (cap : Int) := by omega
        have hb5 : (i : Int) ≤ (i : Int) + 4 := by omega
        have hb6 : (0 : Int) ≤ (i : Int) + 4 := by omega
        have hb7 : i ≤ i + 4 := by omega
        have KB : Hd (∀ W, Ext [] w6 W → Blk W bx 64 (Ins.cells ⟨p % 64, p / 64 % 64, p / 4096 % 32, p / 131072 % 32, q % 32, q / 32 % 2048 - 1024, q / 65536 % 32, r, s⟩).toArray) := hd fun W hW => HB6.out.ext hW (by simp)
        refine wp_region_rel 8 (JE w6) (Ext []) (kinds [(1, sOneI ⟨p % 64, p / 64 % 64, p / 4096 % 32, p / 131072 % 32, q % 32, q / 32 % 2048 - 1024, q / 65536 % 32, r, s⟩), (2, sEnc ⟨p % 64, p / 64 % 64, p / 4096 % 32, p / 131072 % 32, q % 32, q / 32 % 2048 - 1024, q / 65536 % 32, r, s⟩)]) (by kernel_rfl) (by kernel_rfl) JE.less ?_ JE.start ?_
        · exact Stays.cons sOneI.stays (Stays.cons sEnc.stays Stays.nil)
        simp only [List.take_succ_cons, List.take_zero, List.drop_succ_cons, List.drop_zero]
        repeat
          refine relAt_det rfl rfl ?_
          apply Exists.intro
          refine ⟨fun wr nr hJ => ?_, ?_⟩
          · have qk := KB.out _ hJ; have qb := qk.cell; have ql := qk.lt; simp only [Ins.cells] at qb; clear qk
            clear hJ
            (go_simp; try go_bits)
            first | rfl | exact ⟨rfl, rfl⟩
          simp only [Act.put, List.setIfInBounds_toArray, List.set_cons_succ, List.set_cons_zero]
        refine relAt_value (sOneI ⟨p % 64, p / 64 % 64, p / 4096 % 32, p / 131072 % 32, q % 32, q / 32 % 2048 - 1024, q / 65536 % 32, r, s⟩) rfl rfl (fun wq nr hJ _ => ?_) ?_
        · refine ⟨wq.heap.size, wq.alloc (.cells (codeCells [⟨p % 64, p / 64 % 64, p / 4096 % 32, p / 131072 % 32, q % 32, q / 32 % 2048 - 1024, q / 65536 % 32, r, s⟩]).toArray 64), ?_, Blk.new _ _ _, hJ.alloc _, (Ext.refl _ _).alloc _⟩
          clear hJ
          go_simp
          first | exact ⟨rfl, rfl⟩ | rfl
        intro (b1 : Nat)
        simp only [Act.put, List.setIfInBounds_toArray, List.set_cons_succ, List.set_cons_zero]
        dsimp only [sOneI]
        refine relAt_call (sEnc ⟨p % 64, p / 64 % 64, p / 4096 % 32, p / 131072 % 32, q % 32, q / 32 % 2048 - 1024, q / 65536 % 32, r, s⟩) rfl rfl ?_ ?_
        · apply Exists.intro
          apply Exists.intro
          refine ⟨fun wq => ?_, fun wq nr hJ hf => ?_⟩
          · go_simp
            first | exact ⟨rfl, rfl⟩ | rfl
          · have hB : Blk wq b1 64 (codeCells [⟨p % 64, p / 64 % 64, p / 4096 % 32, p / 131072 % 32, q % 32, q / 32 % 2048 - 1024, q / 65536 % 32, r, s⟩]).toArray := get_after hf 1 (by kernel_rfl)
            refine (encoded_any (some ⟨b1, 0, none⟩) 1 1 [⟨p % 64, p / 64 % 64, p / 4096 % 32, p / 131072 % 32, q % 32, q / 32 % 2048 - 1024, q / 65536 % 32, r, s⟩] wq (.inr ⟨b1, 0, rfl, fun k x hx j v hv => by rw [hB.cell, Nat.zero_add]; simpa using codeCells_get _ k x hx j v hv⟩) rfl (by omega)).mono ?_
            rintro e w' ⟨v, rfl, ho, hE⟩
            obtain ⟨A2, cap2, rfl, hr⟩ := own_rdi (n := 4) ho (by rw [encS_one]; rfl)
            rw [encS_one] at hr
            exact ⟨(A2, cap2), rfl, hr, hJ.trans hE, hE⟩
        intro (u2 : Option Addr × Nat)
        simp only [Act.put, List.setIfInBounds_toArray, List.set_cons_succ, List.set_cons_zero]
        dsimp only [sEnc]
        repeat
          refine relAt_det rfl rfl ?_
          apply Exists.intro
          refine ⟨fun wr nr hJ => ?_, ?_⟩
          · skip
            clear hJ
            (go_simp; try go_bits)
            first | rfl | exact ⟨rfl, rfl⟩
          simp only [Act.put, List.setIfInBounds_toArray, List.set_cons_succ, List.set_cons_zero]
        refine relAt_nil (fun w9 hJ hF => ?_)
        have hrd1 : RdI w9 u2.1 (wordsS ⟨p % 64, p / 64 % 64, p / 4096 % 32, p / 131072 % 32, q % 32, q / 32 % 2048 - 1024, q / 65536 % 32, r, s⟩) := hF 2
        have HJ := hd hJ
        clear hF hJ
        have HE9 := hd (HE6.out.trans HJ.out)
        have HEQ : Hd (decide (wordsS ⟨p % 64, p / 64 % 64, p / 4096 % 32, p / 131072 % 32, q % 32, q / 32 % 2048 - 1024, q / 65536 % 32, r, s⟩ = [p, q, r, s]) = (inR p 0 4194303 && inR q 0 2097151)) := hd (by
          rw [Bool.eq_iff_iff, decide_eq_true_iff, Bool.and_eq_true]
          exact words_fields p q r s)
        have HOKW : Hd (okW p q r s = ((inR p 0 4194303 && inR q 0 2097151) && (inR (q / 32 % 2048 - 1024) (-1000) 1000 && (inR r (-2147483648) 2147483647 && inR s (-2147483648) 2147483647)))) := hd (by
          unfold okW
          cases inR p 0 4194303 <;> cases inR q 0 2097151 <;> cases inR r (-2147483648) 2147483647 <;> cases inR s (-2147483648) 2147483647 <;> cases inR (q / 32 % 2048 - 1024) (-1000) 1000 <;> rfl)
        have hrd2 := HRD.out w9 HE9.out
        have HRD1 := hd hrd1
        have HRD2 := hd hrd2
        clear hrd1 hrd2 HRD
        go_wp2_with fail
        refine (equal_same u2.1 (some ⟨b, o + i, none⟩) _ _ 4 (wordsS ⟨p % 64, p / 64 % 64, p / 4096 % 32, p / 131072 % 32, q % 32, q / 32 % 2048 - 1024, q / 65536 % 32, r, s⟩) [p, q, r, s] w9 HRD1.out HRD2.out (by omega) rfl rfl).mono ?_
        rintro e w10 ⟨rfl, hE10⟩
        rw [HEQ.out]
        have HE10 := hd (HE9.out.trans hE10)
        have hq6 := KB.out w10 (HJ.out.trans hE10)
        have qb := hq6.cell
        have ql := hq6.lt
        simp only [Ins.cells] at qb
        have HB10 := hd hq6
        clear hE10 HEQ hq6 HRD1 HRD2
        cases g0 : (inR p 0 4194303 && inR q 0 2097151)
        · have HK := hd (HBAD.out (by rw [HOKW.out, g0]; rfl))
          go_wp2_with fail
          go_ret2
          exact HK.out _ ((HE1.out.trans HE.out).trans HE10.out)
        go_wp2_with fail
        refine (within2_any _ _ _ _).mono ?_
        rintro e w4 ⟨rfl, rfl⟩
        cases g1 : inR (q / 32 % 2048 - 1024) (-1000) 1000
        · have HK := hd (HBAD.out (by rw [HOKW.out, g0, g1]; rfl))
          go_wp2_with fail
          go_ret2
          exact HK.out _ ((HE1.out.trans HE.out).trans HE10.out)
        go_wp2_with fail
        refine (word2_any _ _).mono ?_
        rintro e w4 ⟨rfl, rfl⟩
        cases g2 : inR r (-2147483648) 2147483647
        · have HK := hd (HBAD.out (by rw [HOKW.out, g0, g1, g2]; rfl))
          go_wp2_with fail
          go_ret2
          exact HK.out _ ((HE1.out.trans HE.out).trans HE10.out)
        go_wp2_with fail
        refine (word2_any _ _).mono ?_
        rintro e w4 ⟨rfl, rfl⟩
        cases g3 : inR s (-2147483648) 2147483647
        · have HK := hd (HBAD.out (by rw [HOKW.out, g0, g1, g2, g3]; rfl))
          go_wp2_with fail
          go_ret2
          exact HK.out _ ((HE1.out.trans HE.out).trans HE10.out)
        have HOK : Hd (okW p q r s = true) := hd (by rw [HOKW.out, g0, g1, g2, g3]; rfl)
        obtain ⟨xs, hxs, ho⟩ := HDO.out
        have HXS := hd hxs
        have HO := hd ho
        have hsz : wr.heap.size ≤ w10.heap.size := HE10.out.size
        clear hxs ho HBAD HDO g0 g1 g2 g3
        go_wp2_with (
          refine wpList_append_lies _ rfl _ _ 41 rfl w1.heap.size 64 i0 _ 9 72 Try.underlying41 hi0 hz0 hz1 hz2 rfl (by decide) _ j (codeCells xs) rfl (own_ext HO.out (HE10.out.alloc _) (by simp)) ⟨w10.heap.size, 0, none⟩ 1 1 (Ins.cells ⟨p % 64, p / 64 % 64, p / 4096 % 32, p / 131072 % 32, q % 32, q / 32 % 2048 - 1024, q / 65536 % 32, r, s⟩) rfl rfl ?c1 ?c2 (by decide) ?c3 ?c4 ?c5 _ rfl ?_
          case c1 => exact World.news_of_block (Blk.new _ _ _)
          case c2 => intro u hu; simp [Ins.cells] at hu; rcases hu with rfl | rfl | rfl | rfl | rfl | rfl | rfl | rfl | rfl <;> rfl
          case c3 => unfold maxLen; have := HI.out; omega
          case c4 => have := HI.out; omega
          case c5 => have := HE.out.size; simp; omega
          intro g2 cap2 w8 ho hg ha hlt2
          have HN : Hd (DecSt ws w1.heap.size (j + 1) (.slice (some ⟨g2, 0, none⟩) (j + 1) cap2) w8) := hd ⟨xs ++ [fieldsW p q r s], by
            have hi4 := HI.out
            exact decAt_ok ws j xs p q r s HXS.out (by rw [← hi4]; exact HP.out) (by rw [← hi4]; exact HQ.out) (by rw [← hi4]; exact HR.out) (by rw [← hi4]; exact HS.out) HOK.out, by rw [codeCells_snoc]; exact ho⟩
          have HE8 : Hd (Ext [] w1 w8) := hd (((HE.out.trans HE10.out).alloc _).grown hg (fun x hx => .inr (own_base HO.out x hx)))
          clear ho hg ha hlt2)
        go_roundw
        case rel => exact ⟨j + 1, i + 4, by go_num, hd (by have := HI.out; omega), by have := H4.out; have := HI.out; omega, HE8, HN⟩
        case measure => simp [intOf]; omega
      · have hin : i = n := by omega
        subst hin
        obtain ⟨xs, hxs, ho⟩ := HD.out
        have hlen := HL.out
        have hj4 : ws.length / 4 = j := by have := HI.out; omega
        obtain ⟨A2, cap2, rfl, hr2⟩ := own_rdc ho (decAt_length ws j xs hxs)
        have hxl := decAt_length ws j xs hxs
        rw [← hj4] at hxs
        have HXS := hd hxs
        have HDE : Hd (decE ⟨m0, m1, m2, m3, m4⟩ ws = checkS ⟨m0, m1, m2, m3, m4⟩ xs) := hd (decE_some (by have := H4.out; omega) hxs)
        have HCK := hd (fun W (hE : Ext [] wr W) => codeFault_len ⟨m0, m1, m2, m3, m4⟩ A2 cap2 j xs W HOKM.out (hr2.ext hE (by simp)) hxl (by have := HI.out; omega))
        have HR2 := hd hr2
        have HXL := hd hxl
        obtain ⟨cv, hcv⟩ : ∃ cv, cv = checkS ⟨m0, m1, m2, m3, m4⟩ xs := ⟨_, rfl⟩
        rw [← hcv] at HDE
        simp only [← hcv, Mc.cells] at HCK
        have HM2 := hd (HM1.out.ext HE.out (by simp))
        have qm := HM2.out.cell
        have qml := HM2.out.lt
        clear hcv hxs ho hlen hj4 hr2 hxl HD
        go_wp2_with fail
        refine (HCK.out _ (Ext.refl _ _)).mono ?_
        rintro e w3 ⟨rfl, hE3⟩
        have HE3 := hd hE3
        clear hE3 qm qml HCK
        by_cases hc0 : cv = 0
        · subst hc0
          go_wp2_with fail
          go_ret2
          exact DecP.ok HDE.out HXS.out HXL.out (HR2.out.ext HE3.out (by simp)) ((HE1.out.trans HE.out).trans HE3.out)
        · have hb2 : (cv != 0) = true := by simpa using hc0
          have HC0 := hd hc0
          clear hc0
          go_wp2_with fail
          go_ret2
          exact DecP.bad HDE.out HC0.out ((HE1.out.trans HE.out).trans HE3.out)
  · have hb : ((n : Int) % 4 != 0) = true := by simp; omega
    have H4 := hd h4
    clear h4
    go_wp2_with fail
    go_ret2
    exact DecP.bad (decE_short (by rw [HL.out]; exact H4.out)) (by decide) HE1.out
end Go.Proofs.Ytedabpldigcffaa
