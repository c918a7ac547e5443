/- prepared and New at the small machine. -/
import Derived.Test.YtedabpldigcffaaChipD
namespace Go.Proofs.Ytedabpldigcffaa
open Go.RowKit
set_option linter.unusedSimpArgs false
set_option linter.unusedVariables false

set_option maxHeartbeats 1000000 in
set_option maxRecDepth 100000 in
theorem indexInt_fn (p : Int → Bool) (hF : ∀ x W, Calls Try.prog 118 #[.int .i64 x] W (fun e w' => e = .returned (.bool (p x)) ∧ Ext [] W w')) (b o cap : Nat) (xs : List Int) (w : World) (h : NumsAt w b o xs) (hl : xs.length ≤ 10000000) (hb : b < w.heap.size) :
    Calls Try.prog 69 #[.slice (some ⟨b, o, none⟩) xs.length cap, .func (.func 118) #[] #[]] w fun e w' => ∃ r : Int, e = .returned (.int .i64 r) ∧ (0 ≤ r ↔ xs.any p = true) ∧ Ext [] w w' := by
  have HH := hd h
  have HF := hd hF
  clear h hF
  go_enter Try.func69, Try.ntmps69
  go_wp2_with fail
  go_loopw [8] (fun i wr => ∃ k : Nat, i = .int .i64 k ∧ k ≤ xs.length ∧ Hd (∀ j y, j < k → xs[j]? = some y → p y = false) ∧ Ext [] w wr) (fun i _ => (xs.length - intOf i).toNat)
  case atStart => exact ⟨0, rfl, Nat.zero_le _, hd fun j y hj => absurd hj (by omega), Ext.refl _ _⟩
  case round =>
    obtain ⟨k, rfl, hk, hn, hE⟩ := hrel
    by_cases hlt : k < xs.length
    · obtain ⟨x, hx⟩ : ∃ x, xs[k]? = some x := ⟨_, List.getElem?_eq_getElem hlt⟩
      have hc := hE.held (HH.out k x hx) (by simp)
      have hbl : b < wr.heap.size := Nat.lt_of_lt_of_le hb hE.size
      have HX := hd hx
      have HE := hd hE
      clear hx hE
      go_wp2_with fail
      refine (HF.out x _).mono ?_
      rintro e w2 ⟨rfl, hE2⟩
      have HE2 := hd (HE.out.trans hE2)
      clear hE2 hc
      cases hq : p x
      · have HQ := hd hq
        clear hq
        go_wp2_with fail
        go_round
        case rel =>
          refine ⟨k + 1, by go_num, by omega, hd fun j z hj hz => ?_, HE2.out⟩
          rcases Nat.lt_or_ge j k with h1 | h1
          · exact hn.out j z h1 hz
          · have : j = k := by omega
            subst this
            rw [HX.out] at hz
            cases hz
            exact HQ.out
        case measure => simp [intOf]; omega
      · have HQ := hd hq
        clear hq
        go_wp2_with fail
        go_ret
        refine ⟨_, rfl, ?_, HE2.out⟩
        constructor
        · intro _
          exact List.any_eq_true.2 ⟨x, List.mem_of_getElem? HX.out, HQ.out⟩
        · intro _; omega
    · have HE := hd hE
      clear hE
      go_wp2_with fail
      go_ret
      refine ⟨_, rfl, ?_, HE.out⟩
      constructor
      · intro h0; omega
      · intro hm
        obtain ⟨f, hf, hq⟩ := List.any_eq_true.1 hm
        obtain ⟨i, hi⟩ := List.getElem?_of_mem hf
        have hil := (List.getElem?_eq_some_iff.1 hi).1
        have := hn.out i f (by omega) hi
        rw [hq] at this
        cases this
set_option maxRecDepth 100000 in
theorem containsInt_fn (p : Int → Bool) (hF : ∀ x W, Calls Try.prog 118 #[.int .i64 x] W (fun e w' => e = .returned (.bool (p x)) ∧ Ext [] W w')) (b o cap : Nat) (xs : List Int) (w : World) (h : NumsAt w b o xs) (hl : xs.length ≤ 10000000) (hb : b < w.heap.size) :
    Calls Try.prog 40 #[.slice (some ⟨b, o, none⟩) xs.length cap, .func (.func 118) #[] #[]] w fun e w' => e = .returned (.bool (xs.any p)) ∧ Ext [] w w' := by
  go_enter Try.func40, Try.ntmps40
  go_wp2_with fail
  refine (indexInt_fn p hF b o cap xs w h hl hb).mono ?_
  rintro e w' ⟨r, rfl, hr, hE⟩
  have HR := hd hr
  have HE := hd hE
  clear hr hE
  go_wp2_with fail
  go_ret
  exact ⟨ret_bool (by rw [Bool.eq_iff_iff]; simp only [decide_eq_true_eq]; exact HR.out), HE.out⟩
theorem notWord_any (x : Int) (w : World) : Calls Try.prog 118 #[.int .i64 x] w fun e w' => e = .returned (.bool (!inR x (-2147483648) 2147483647)) ∧ Ext [] w w' := by
  go_enter Try.func118, Try.ntmps118
  go_wp2_with fail
  refine (isWord_any _ _).mono ?_
  rintro e w' ⟨rfl, rfl⟩
  go_wp2_with fail
  go_ret
  exact ⟨rfl, Ext.refl _ _⟩

/-- The small machine. -/
def mS : Mc := ⟨8, 2, 256, 2, 1⟩
set_option maxHeartbeats 1000000 in
set_option maxRecDepth 100000 in
theorem prepared_small (g1 c1 g3 c3 : Nat) (xs : List Ins) (main : List Int) (w : World) (h : RdC w (some ⟨g1, 0, none⟩) xs) (hl : xs.length ≤ 100000) (hok : checkS mS xs = 0)
    (hm : NumsAt w g3 0 main) (hm8 : main.length = 8) (hw : ∀ x ∈ main, inR x (-2147483648) 2147483647 = true) (hg3 : g3 < w.heap.size) :
    Calls Try.prog 103 #[.agg #[.int .i64 8, .int .i64 2, .int .i64 256, .int .i64 2, .int .i64 1], .slice (some ⟨g1, 0, none⟩) xs.length c1, .slice (some ⟨g3, 0, none⟩) 8 c3] w fun e w' => e = .returned (.int .i64 0) ∧ Ext [] w w' := by
  have HH := hd h
  have HM := hd hm
  have HO := hd hok
  have HC := hd (containsInt_fn _ notWord_any g3 0 c3 main)
  rw [hm8] at HC
  have hany : main.any (fun x => !inR x (-2147483648) 2147483647) = false := by
    rw [List.any_eq_false]
    intro x hx
    rw [hw x hx]
    decide
  have HA := hd hany
  clear h hm hok hw hany hm8
  go_enter Try.func103, Try.ntmps103
  go_wp2_with fail
  refine (check_any mS _ _ xs _ (HH.out.ext ((Ext.refl [] w).alloc _) (by simp)) hl).mono ?_
  rintro e w1 ⟨rfl, hE1⟩
  rw [HO.out]
  have hB := (Blk.new w 40 #[.int .i64 8, .int .i64 2, .int .i64 256, .int .i64 2, .int .i64 1]).ext hE1 (by simp)
  have hbc := hB.cell
  have hbl := hB.lt
  have HE1 := hd (((Ext.refl [] w).alloc _).trans hE1)
  have hg3l : g3 < w1.heap.size := Nat.lt_of_lt_of_le hg3 HE1.out.size
  clear hE1 hB
  go_wp2_with fail
  refine (HC.out _ (HM.out.ext HE1.out (by simp)) (by omega) hg3l).mono ?_
  rintro e w2 ⟨rfl, hE2⟩
  rw [HA.out]
  have HE2 := hd (HE1.out.trans hE2)
  clear hE2
  go_wp2_with fail
  go_ret
  exact ⟨rfl, HE2.out⟩

set_option maxHeartbeats 1000000 in
set_option maxRecDepth 100000 in
theorem new_small (g1 c1 g3 c3 : Nat) (xs : List Ins) (main : List Int) (w : World) (h : RdC w (some ⟨g1, 0, none⟩) xs) (h0 : 0 < xs.length) (hl : xs.length ≤ 100000) (hf : flat xs) (hok : checkS mS xs = 0)
    (hm : NumsAt w g3 0 main) (hm8 : main.length = 8) (hw : ∀ x ∈ main, inR x (-2147483648) 2147483647 = true) (hg3 : g3 < w.heap.size) :
    Calls Try.prog 85 #[.agg #[.int .i64 8, .int .i64 2, .int .i64 256, .int .i64 2, .int .i64 1], .slice (some ⟨g1, 0, none⟩) xs.length c1, .slice (some ⟨g3, 0, none⟩) 8 c3] w fun e w' =>
      ∃ b u vb vs, e = .returned (.tuple #[.pointer (some ⟨b, 0, none⟩), .int .i64 0]) ∧ Ext [] w w' ∧ CF w.heap.size xs main u w' ∧ Blk w' b 117 (u.cells xs.length 8 vb vs 0 0 0 false) ∧ u.g1 < b ∧ u.g3 < b ∧ u.b4 < b ∧ w.heap.size ≤ b := by
  have HH := hd h
  have HM := hd hm
  have HF := hd hf
  have H8 := hd hm8
  have HS := hd (started_small g1 c1 g3 c3 xs main)
  unfold Started at HS
  rw [hm8] at HS
  clear h hm hf hm8
  go_enter Try.func85, Try.ntmps85
  go_wp2_with fail
  refine (prepared_small g1 _ g3 _ xs main _ (HH.out.ext ((Ext.refl [] w).alloc _) (by simp)) hl hok (HM.out.ext ((Ext.refl [] w).alloc _) (by simp)) H8.out hw (by simp; omega)).mono ?_
  rintro e w1 ⟨rfl, hE1⟩
  have hB := (Blk.new w 40 #[.int .i64 8, .int .i64 2, .int .i64 256, .int .i64 2, .int .i64 1]).ext hE1 (by simp)
  have hbc := hB.cell
  have hbl := hB.lt
  have HE1 := hd (((Ext.refl [] w).alloc _).trans hE1)
  clear hE1 hB
  go_wp2_with fail
  refine (HS.out _ (HH.out.ext HE1.out (by simp)) h0 hl HF.out (HM.out.ext HE1.out (by simp)) (by omega) (by omega)).mono ?_
  rintro e w2 ⟨b, u, vb, vs, rfl, hE2, hCF, hBk, h1, h2, h3, h4⟩
  have HX := hd (And.intro hE2 (And.intro hCF (And.intro hBk (And.intro h1 (And.intro h2 (And.intro h3 h4))))))
  clear hE2 hCF hBk h1 h2 h3 h4
  go_wp2_with fail
  go_ret2
  obtain ⟨hE2, hCF, hBk, h1, h2, h3, h4⟩ := HX.out
  exact ⟨b, u, vb, vs, rfl, HE1.out.trans hE2, ⟨hCF.code, hCF.codeLt, own_low hCF.main HE1.out.size, hCF.queue⟩, hBk, h1, h2, h3, Nat.le_trans HE1.out.size h4⟩
end Go.Proofs.Ytedabpldigcffaa
