/- Decode: the walk. Condition: the machine is right; the slice reads as a list of ints. -/
import Derived.Test.YtedabpldigcffaaCodC
import Derived.IntWalk
namespace Go.Proofs.Ytedabpldigcffaa
open Go.RowKit
set_option linter.unusedSimpArgs false
set_option linter.unusedVariables false
attribute [local irreducible] relAt

theorem Ext.setAt9 {S : List Nat} {a w : World} {b : Nat} (h : Ext S a w) (hb : b ∈ S ∨ a.heap.size ≤ b) (y0 y1 y2 y3 y4 y5 y6 y7 y8 : Value) :
    Ext S a (((((((((w.setCell ⟨b, 0, none⟩ y0).setCell ⟨b, 1, none⟩ y1).setCell ⟨b, 2, none⟩ y2).setCell ⟨b, 3, none⟩ y3).setCell ⟨b, 4, none⟩ y4).setCell ⟨b, 5, none⟩ y5).setCell ⟨b, 6, none⟩ y6).setCell ⟨b, 7, none⟩ y7).setCell ⟨b, 8, none⟩ y8) :=
  Ext.setAt hb (Ext.setAt hb (Ext.setAt hb (Ext.setAt hb (Ext.setAt hb (Ext.setAt hb (Ext.setAt hb (Ext.setAt hb (Ext.setAt hb h))))))))
/-- What reading words answers. -/
def DecP (m : Mc) (ws : List Int) (w : World) (e : Ending) (w' : World) : Prop :=
  ∃ A cap, e = .returned (.tuple #[.slice A (decX m ws).length cap, .int .i64 (decE m ws)]) ∧ RdC w' A (decX m ws) ∧ Ext [] w w'
theorem DecP.bad {m : Mc} {ws : List Int} {w w' : World} {c : Int} (h : decE m ws = c) (hc : c ≠ 0) (hE : Ext [] w w') : DecP m ws w (.returned (.tuple #[.slice none 0 0, .int .i64 c])) w' := by
  have hx := decX_bad (m := m) (ws := ws) (by omega)
  exact ⟨none, 0, by rw [hx, h]; rfl, by rw [hx]; exact .inl rfl, hE⟩
theorem DecP.ok {m : Mc} {ws : List Int} {xs : List Ins} {w w' : World} {A : Option Addr} {n cap : Nat} (h : decE m ws = 0) (hn : decAt ws (ws.length / 4) = some xs) (hx : xs.length = n) (hr : RdC w' A xs) (hE : Ext [] w w') :
    DecP m ws w (.returned (.tuple #[.slice A n cap, .int .i64 0])) w' := by
  have hd := decX_ok h hn
  exact ⟨A, cap, by rw [hd, h, hx], by rw [hd]; exact hr, hE⟩
/-- A new block of zeros for an instruction. -/
def sNewZ (lo : Nat) : Spec := ⟨Nat, 0, fun b => .pointer (some ⟨b, 0, none⟩), fun b w => Blk w b 64 #[.int .i64 0, .int .i64 0, .int .i64 0, .int .i64 0, .int .i64 0, .int .i64 0, .int .i64 0, .int .i64 0, .int .i64 0] ∧ lo ≤ b⟩
theorem sNewZ.stays {lo : Nat} : ∀ y w w', Ext [] w w' → (sNewZ lo).V y w → (sNewZ lo).V y w' := fun _ _ _ hE h => ⟨h.1.ext hE List.not_mem_nil, h.2⟩
/-- The code so far. -/
def DecSt (ws : List Int) (B j : Nat) (v : Value) (w : World) : Prop := ∃ xs, decAt ws j = some xs ∧ w.ownsRow B 64 9 v j (codeCells xs)

theorem own_rdc {w : World} {B n : Nat} {v : Value} {xs : List Ins} (h : w.ownsRow B 64 9 v n (codeCells xs)) (hx : xs.length = n) : ∃ A cap, v = .slice A n cap ∧ RdC w A xs := by
  rcases h.2 with ⟨rfl, h0⟩ | ⟨g, cap, cur, rfl, hb, hg, hnc, _⟩
  · exact ⟨none, 0, by rw [h0], .inl (List.eq_nil_of_length_eq_zero (by omega))⟩
  · exact ⟨_, cap, rfl, .inr ⟨g, 0, rfl, fun k x hxk j v hv => by rw [Nat.zero_add]; exact row_cells h _ v (codeCells_get xs k x hxk j v hv)⟩⟩

set_option maxHeartbeats 4000000 in
set_option maxRecDepth 100000 in
theorem decode_any (m : Mc) (A : Option Addr) (cap n : Nat) (ws : List Int) (w : World) (hm : m.okB = true) (h : RdI w A ws) (hx : ws.length = n) (hl : n ≤ 400000) :
    Calls Try.prog 32 #[.agg m.cells.toArray, .slice A n cap] w (DecP m ws w) := by
  obtain ⟨i0, hi0, hz0, hz1, hz2⟩ := info_parts Try.info64
  have HA := hd h
  have HL := hd hx
  obtain ⟨m0, m1, m2, m3, m4⟩ := m
  have HCM := hd (fun W => checkMachine_any ⟨m0, m1, m2, m3, m4⟩ W)
  have hok0 : okE (Mc.okB ⟨m0, m1, m2, m3, m4⟩) 9 = 0 := by rw [hm]; rfl
  simp only [hok0, Mc.cells] at HCM ⊢
  clear h hx hm hok0
  go_enter Try.func32, Try.ntmps32
  go_wp2_with fail
  refine (HCM.out _).mono ?_
  rintro e w1 ⟨rfl, hE1⟩
  have HM1 := hd ((Blk.new w 40 #[.int .i64 m0, .int .i64 m1, .int .i64 m2, .int .i64 m3, .int .i64 m4]).ext hE1 (by simp))
  have HE1 := hd (((Ext.refl [] w).alloc _).trans hE1)
  have hwl : w.heap.size < w1.heap.size := HM1.out.lt
  clear hE1 HCM
  by_cases h4 : n % 4 = 0
  · have hb : ((n : Int) % 4 != 0) = false := by simp; omega
    have H4 := hd h4
    clear h4
    go_wp2_with fail
    go_loopw [7, 8] (fun v i wr => ∃ j i0 : Nat, i = .int .i64 i0 ∧ Hd (i0 = 4 * j) ∧ i0 ≤ n ∧ Hd (Ext [] w1 wr) ∧ Hd (DecSt ws w1.heap.size j v wr)) (fun _ i _ => (n - intOf i).toNat)
    case atStart => exact ⟨0, 0, rfl, hd rfl, by omega, hd (Ext.refl _ _), hd ⟨[], rfl, rfl, .inl ⟨rfl, rfl⟩⟩⟩
    case round =>
      obtain ⟨j, i, rfl, HI, hj, HE, HD⟩ := hrel
      by_cases hlt : i < n
      · have hi3 : i + 3 < n := by have := H4.out; have := HI.out; omega
        obtain ⟨p, hp⟩ : ∃ x, ws[i]? = some x := ⟨_, List.getElem?_eq_getElem (l := ws) (i := i) (by have := HL.out; omega)⟩
        obtain ⟨q, hq⟩ : ∃ x, ws[i + 1]? = some x := ⟨_, List.getElem?_eq_getElem (l := ws) (i := i + 1) (by have := HL.out; omega)⟩
        obtain ⟨r, hr⟩ : ∃ x, ws[i + 2]? = some x := ⟨_, List.getElem?_eq_getElem (l := ws) (i := i + 2) (by have := HL.out; omega)⟩
        obtain ⟨s, hs⟩ : ∃ x, ws[i + 3]? = some x := ⟨_, List.getElem?_eq_getElem (l := ws) (i := i + 3) (by have := HL.out; omega)⟩
        rcases HA.out.ext (HE1.out.trans HE.out) (by simp) with h0 | ⟨b, o, rfl, hc⟩
        · have := HL.out; simp [h0] at this; omega
        have c0 := hc i _ hp
        have c1 := hc (i + 1) _ hq
        have c2 := hc (i + 2) _ hr
        have c3 := hc (i + 3) _ hs
        have HP := hd hp
        have HQ := hd hq
        have HR := hd hr
        have HS := hd hs
        have hw1 : IntKind.i64.wrap ((i : Int) + 1) = (i : Int) + 1 := by rw [IntKind.wrap_i64]; omega
        have hw2 : IntKind.i64.wrap ((i : Int) + 2) = (i : Int) + 2 := by rw [IntKind.wrap_i64]; omega
        have hw3 : IntKind.i64.wrap ((i : Int) + 3) = (i : Int) + 3 := by rw [IntKind.wrap_i64]; omega
        have ht1 : ((i : Int) + 1).toNat = i + 1 := by omega
        have ht2 : ((i : Int) + 2).toNat = i + 2 := by omega
        have ht3 : ((i : Int) + 3).toNat = i + 3 := by omega
        have hb1 : (i : Int) + 1 < (n : Int) := by omega
        have hb2 : (i : Int) + 2 < (n : Int) := by omega
        have hb3 : (i : Int) + 3 < (n : Int) := by omega
        have hn1 : (0 : Int) ≤ (i : Int) + 1 := by omega
        clear hc hp hq hr hs
        go_wp2_with fail
        go_quiet (fail)
        have HDO : Hd (∃ xs, decAt ws j = some xs ∧ wr.ownsRow w1.heap.size 64 9 u7 j (codeCells xs)) := hd HD.out
        have HBAD : Hd (okW p q r s = false → ∀ W, Ext [] w W → DecP ⟨m0, m1, m2, m3, m4⟩ ws w (.returned (.tuple #[.slice none 0 0, .int .i64 3])) W) := hd fun hk W hW => by
          obtain ⟨xs, hxs, _⟩ := HD.out
          have hi4 := HI.out
          have hlen := HL.out
          have h44 := H4.out
          have := decAt_bad ws j xs p q r s hxs (by rw [← hi4]; exact HP.out) (by rw [← hi4]; exact HQ.out) (by rw [← hi4]; exact HR.out) (by rw [← hi4]; exact HS.out) hk (by omega)
          rcases this with h1 | h1
          · exact DecP.bad (decE_none (by omega) h1) (by decide) hW
          · exact absurd (by omega) h1
        go_wp2_with fail
        refine (within_any _ _ _ _).mono ?_
        rintro e w4 ⟨rfl, rfl⟩
        cases g0 : inR p 0 4194303
        · have HK := hd (HBAD.out (by unfold okW; rw [g0]; rfl))
          go_wp2_with fail
          go_ret2
          exact HK.out _ ((HE1.out.trans HE.out).drewN _)
        go_wp2_with fail
        refine (within_any _ _ _ _).mono ?_
        rintro e w4 ⟨rfl, rfl⟩
        cases g1 : inR q 0 2097151
        · have HK := hd (HBAD.out (by unfold okW; rw [g0, g1]; rfl))
          go_wp2_with fail
          go_ret2
          exact HK.out _ ((HE1.out.trans HE.out).drewN _)
        go_wp2_with fail
        refine (isWord_any _ _).mono ?_
        rintro e w4 ⟨rfl, rfl⟩
        cases g2 : inR r (-2147483648) 2147483647
        · have HK := hd (HBAD.out (by unfold okW; rw [g0, g1, g2]; rfl))
          go_wp2_with fail
          go_ret2
          exact HK.out _ ((HE1.out.trans HE.out).drewN _)
        go_wp2_with fail
        refine (isWord_any _ _).mono ?_
        rintro e w4 ⟨rfl, rfl⟩
        cases g3 : inR s (-2147483648) 2147483647
        · have HK := hd (HBAD.out (by unfold okW; rw [g0, g1, g2, g3]; rfl))
          go_wp2_with fail
          go_ret2
          exact HK.out _ ((HE1.out.trans HE.out).drewN _)
        go_wp2_with fail
        obtain ⟨hp0, hp1⟩ := inR_iff.1 g0
        obtain ⟨hq0, hq1⟩ := inR_iff.1 g1
        have G2 := hd g2
        have G3 := hd g3
        have G0 := hd g0
        have G1 := hd g1
        clear g0 g1 g2 g3
        have K2 : Hd (∀ W, Ext [] (wr.drewN nq) W → W.cell? ⟨b, o + (i + 2), none⟩ = some (.int .i64 r)) := hd fun W hW => hW.held (p := ⟨b, o + (i + 2), none⟩) (show (wr.drewN nq).cell? ⟨b, o + (i + 2), none⟩ = _ from c2) (by simp)
        have K3 : Hd (∀ W, Ext [] (wr.drewN nq) W → W.cell? ⟨b, o + (i + 3), none⟩ = some (.int .i64 s)) := hd fun W hW => hW.held (p := ⟨b, o + (i + 3), none⟩) (show (wr.drewN nq).cell? ⟨b, o + (i + 3), none⟩ = _ from c3) (by simp)
        have hbl : b < wr.heap.size := World.block_lt_of_cell? wr ⟨b, _, none⟩ c2
        clear c0 c1 c2 c3
        refine wp_region_rel 30 (JE (wr.drewN nq)) (Ext []) (kinds [(29, sNewZ wr.heap.size)]) (by kernel_rfl) (by kernel_rfl) JE.less ?_ JE.start ?_
        · exact Stays.cons sNewZ.stays Stays.nil
        simp only [List.take_succ_cons, List.take_zero, List.drop_succ_cons, List.drop_zero]
        repeat
          refine relAt_det rfl rfl ?_
          apply Exists.intro
          refine ⟨fun wr nr hJ => ?_, ?_⟩
          · have k2 := K2.out _ hJ; have k3 := K3.out _ hJ
            clear hJ
            (go_simp; try go_bits)
            first | rfl | exact ⟨rfl, rfl⟩
          simp only [Act.put, List.setIfInBounds_toArray, List.set_cons_succ, List.set_cons_zero]
        refine relAt_value (sNewZ wr.heap.size) rfl rfl (fun wq nr hJ _ => ?_) ?_
        · refine ⟨wq.heap.size, wq.alloc (.cells #[.int .i64 0, .int .i64 0, .int .i64 0, .int .i64 0, .int .i64 0, .int .i64 0, .int .i64 0, .int .i64 0, .int .i64 0] 64), ?_, ⟨Blk.new _ _ _, ?_⟩, hJ.alloc _, (Ext.refl _ _).alloc _⟩
          · clear hJ
            go_simp
            first | exact ⟨rfl, rfl⟩ | rfl
          · have := hJ.size; simpa using this
        intro (bx : Nat)
        simp only [Act.put, List.setIfInBounds_toArray, List.set_cons_succ, List.set_cons_zero]
        dsimp only [sNewZ]
        refine relAt_nil (fun w5 hJ hF => ?_)
        have hbx : Blk w5 bx 64 #[.int .i64 0, .int .i64 0, .int .i64 0, .int .i64 0, .int .i64 0, .int .i64 0, .int .i64 0, .int .i64 0, .int .i64 0] ∧ wr.heap.size ≤ bx := hF 29
        obtain ⟨hB5, hbx2⟩ := hbx
        have HB5 := hd hB5
        have qb := hB5.cell
        have qf := hB5.frozen
        have ql := hB5.lt
        have HJ := hd hJ
        clear hB5 hF hJ
        go_upto_region 14 with fail
        have HB6 := hd (HB5.out.all9 (.int .i64 (p % 64)) (.int .i64 (p / 64 % 64)) (.int .i64 (p / 4096 % 32)) (.int .i64 (p / 131072)) (.int .i64 (q % 32)) (.int .i64 (q / 32 % 2048 - 1024)) (.int .i64 (q / 65536)) (.int .i64 r) (.int .i64 s))
        have HJ2 : Hd (Ext [] wr w5) := hd ((Ext.refl [] wr).drewN nq |>.trans HJ.out)
        have HE6 := hd (Ext.setAt9 HJ2.out (b := bx) (.inr hbx2) (.int .i64 (p % 64)) (.int .i64 (p / 64 % 64)) (.int .i64 (p / 4096 % 32)) (.int .i64 (p / 131072)) (.int .i64 (q % 32)) (.int .i64 (q / 32 % 2048 - 1024)) (.int .i64 (q / 65536)) (.int .i64 r) (.int .i64 s))
        clear HJ HJ2 HB5 K2 K3 qb qf ql
        generalize (((((((((w5.setCell ⟨bx, 0, none⟩ (.int .i64 (p % 64))).setCell ⟨bx, 1, none⟩ (.int .i64 (p / 64 % 64))).setCell ⟨bx, 2, none⟩ (.int .i64 (p / 4096 % 32))).setCell ⟨bx, 3, none⟩ (.int .i64 (p / 131072))).setCell ⟨bx, 4, none⟩ (.int .i64 (q % 32))).setCell ⟨bx, 5, none⟩ (.int .i64 (q / 32 % 2048 - 1024))).setCell ⟨bx, 6, none⟩ (.int .i64 (q / 65536))).setCell ⟨bx, 7, none⟩ (.int .i64 r)).setCell ⟨bx, 8, none⟩ (.int .i64 s)) = w6 at *
        have qb := HB6.out.cell
        have ql := HB6.out.lt
        go_wp2_with fail
        refine (within_any _ _ _ _).mono ?_
        rintro e w7 ⟨rfl, rfl⟩
        cases g4 : inR (q / 32 % 2048 - 1024) (-1000) 1000
        · have HK := hd (HBAD.out (by unfold okW; rw [G0.out, G1.out, G2.out, G3.out, g4]; rfl))
          go_wp2_with fail
          go_ret2
          exact HK.out _ ((HE1.out.trans HE.out).trans HE6.out)
        have HOK : Hd (okW p q r s = true) := hd (by unfold okW; rw [G0.out, G1.out, G2.out, G3.out, g4]; rfl)
        have HFW : Hd (fieldsW p q r s = ⟨p % 64, p / 64 % 64, p / 4096 % 32, p / 131072, q % 32, q / 32 % 2048 - 1024, q / 65536, r, s⟩) := hd (by simp only [fieldsW, Ins.mk.injEq, true_and, and_true]; omega)
        obtain ⟨xs, hxs, ho⟩ := HDO.out
        have HXS := hd hxs
        have HO := hd ho
        have hsz : wr.heap.size ≤ w6.heap.size := HE6.out.size
        clear hxs ho HBAD HDO G0 G1 G2 G3
        go_wp2_with (
          refine wpList_append_lies _ rfl _ _ 41 rfl w1.heap.size 64 i0 _ 9 72 Try.underlying41 hi0 hz0 hz1 hz2 rfl (by decide) _ j (codeCells xs) rfl (own_ext HO.out (HE6.out.alloc _) (by simp)) ⟨w6.heap.size, 0, none⟩ 1 1 (Ins.cells ⟨p % 64, p / 64 % 64, p / 4096 % 32, p / 131072, q % 32, q / 32 % 2048 - 1024, q / 65536, r, s⟩) rfl rfl ?c1 ?c2 (by decide) ?c3 ?c4 ?c5 _ rfl ?_
          case c1 => exact World.news_of_block (Blk.new _ _ _)
          case c2 => intro u hu; simp [Ins.cells] at hu; rcases hu with rfl | rfl | rfl | rfl | rfl | rfl | rfl | rfl | rfl <;> rfl
          case c3 => unfold maxLen; have := HI.out; omega
          case c4 => have := HI.out; omega
          case c5 => have := HE.out.size; simp; omega
          intro g2 cap2 w8 ho hg ha hlt2
          have HN : Hd (DecSt ws w1.heap.size (j + 1) (.slice (some ⟨g2, 0, none⟩) (j + 1) cap2) w8) := hd ⟨xs ++ [fieldsW p q r s], by
            have hi4 := HI.out
            exact decAt_ok ws j xs p q r s HXS.out (by rw [← hi4]; exact HP.out) (by rw [← hi4]; exact HQ.out) (by rw [← hi4]; exact HR.out) (by rw [← hi4]; exact HS.out) HOK.out, by rw [HFW.out, codeCells_snoc]; exact ho⟩
          have HE8 : Hd (Ext [] w1 w8) := hd (((HE.out.trans HE6.out).alloc _).grown hg (fun x hx => .inr (own_base HO.out x hx)))
          clear ho hg ha hlt2)
        go_roundw
        case rel => exact ⟨j + 1, i + 4, by go_num, hd (by have := HI.out; omega), by have := H4.out; have := HI.out; omega, HE8, HN⟩
        case measure => simp [intOf]; omega
      · have hin : i = n := by omega
        subst hin
        obtain ⟨xs, hxs, ho⟩ := HD.out
        have hlen := HL.out
        have hj4 : ws.length / 4 = j := by have := HI.out; omega
        obtain ⟨A2, cap2, rfl, hr2⟩ := own_rdc ho (decAt_length ws j xs hxs)
        have hxl := decAt_length ws j xs hxs
        rw [← hj4] at hxs
        have HXS := hd hxs
        have HDE : Hd (decE ⟨m0, m1, m2, m3, m4⟩ ws = checkS ⟨m0, m1, m2, m3, m4⟩ xs) := hd (decE_some (by have := H4.out; omega) hxs)
        have HCK := hd (fun W (hE : Ext [] wr W) => check_len ⟨m0, m1, m2, m3, m4⟩ A2 cap2 j xs W (hr2.ext hE (by simp)) hxl (by have := HI.out; omega))
        have HR2 := hd hr2
        have HXL := hd hxl
        obtain ⟨cv, hcv⟩ : ∃ cv, cv = checkS ⟨m0, m1, m2, m3, m4⟩ xs := ⟨_, rfl⟩
        rw [← hcv] at HDE
        simp only [← hcv, Mc.cells] at HCK
        have HM2 := hd (HM1.out.ext HE.out (by simp))
        have qm := HM2.out.cell
        have qml := HM2.out.lt
        clear hcv hxs ho hlen hj4 hr2 hxl HD
        go_wp2_with fail
        refine (HCK.out _ (Ext.refl _ _)).mono ?_
        rintro e w3 ⟨rfl, hE3⟩
        have HE3 := hd hE3
        clear hE3 qm qml HCK
        by_cases hc0 : cv = 0
        · subst hc0
          go_wp2_with fail
          go_ret2
          exact DecP.ok HDE.out HXS.out HXL.out (HR2.out.ext HE3.out (by simp)) ((HE1.out.trans HE.out).trans HE3.out)
        · have hb2 : (cv != 0) = true := by simpa using hc0
          have HC0 := hd hc0
          clear hc0
          go_wp2_with fail
          go_ret2
          exact DecP.bad HDE.out HC0.out ((HE1.out.trans HE.out).trans HE3.out)
  · have hb : ((n : Int) % 4 != 0) = true := by simp; omega
    have H4 := hd h4
    clear h4
    go_wp2_with fail
    go_ret2
    exact DecP.bad (decE_short (by rw [HL.out]; exact H4.out)) (by decide) HE1.out
end Go.Proofs.Ytedabpldigcffaa
