/- CrowdOf: how many lives are live at one place at most: the walk. -/
import Derived.Test.YtedabpldigcffaaRegB
import Derived.Test.YtedabpldigcffaaCheckA
import Derived.Lib.MinMax
namespace Go.Proofs.Ytedabpldigcffaa
open Go.RowKit
set_option linter.unusedSimpArgs false
set_option linter.unusedVariables false

theorem RdL.four {w : World} {A : Option Addr} {ls : List Lf} (h : RdL w A ls) {k : Nat} (hk : k < ls.length) :
    ∃ b o, A = some ⟨b, o, none⟩ ∧ b < w.heap.size ∧ w.cell? ⟨b, o + k * 4, none⟩ = some (.int .i64 (lf ls k).nd) ∧ w.cell? ⟨b, o + k * 4 + 1, none⟩ = some (.int .i64 (lf ls k).fr) ∧ w.cell? ⟨b, o + k * 4 + 2, none⟩ = some (.int .i64 (lf ls k).tt) ∧ w.cell? ⟨b, o + k * 4 + 3, none⟩ = some (.int .i64 (lf ls k).sz) := by
  have hx : ls[k]? = some (lf ls k) := by
    unfold lf
    rw [List.getD_eq_getElem?_getD, List.getElem?_eq_getElem hk]; rfl
  obtain ⟨b, o, rfl, hb, hc⟩ := h.at hx
  refine ⟨b, o, rfl, hb, ?_, hc 1 _ rfl, hc 2 _ rfl, hc 3 _ rfl⟩
  have := hc 0 _ rfl
  simpa using this
/-- How many of the first j are live at p. -/
def liveK (ls : List Lf) (p : Int) (j : Nat) : Nat := ((List.range j).filter (liveB ls p)).length
theorem liveK_succ (ls : List Lf) (p : Int) (j : Nat) : liveK ls p (j + 1) = liveK ls p j + if liveB ls p j then 1 else 0 := by
  unfold liveK
  rw [List.range_succ, List.filter_append]
  cases h : liveB ls p j <;> simp [h]
theorem liveK_le (ls : List Lf) (p : Int) (j : Nat) : liveK ls p j ≤ j := by
  unfold liveK
  have := List.length_filter_le (liveB ls p) (List.range j)
  simpa using this
theorem crowdK_bd (ls : List Lf) : ∀ k, crowdK ls k ≤ ls.length
  | k => crowdK_le ls _ _ (fun i _ => liveN_le ls _)

set_option maxHeartbeats 2000000 in
set_option maxRecDepth 100000 in
theorem crowd_any (A : Option Addr) (cap n : Nat) (ls : List Lf) (w : World) (h : RdL w A ls) (hx : ls.length = n) (hl : n ≤ 1000) :
    Calls Try.prog 26 #[.slice A n cap] w fun e w' => e = .returned (.int .i64 (crowdS ls)) ∧ Ext [] w w' := by
  have HA := hd h
  have HL := hd hx
  clear h hx
  go_enter Try.func26, Try.ntmps26
  go_wp2_with fail
  go_loopw [3, 11] (fun m i wr => ∃ k : Nat, i = .int .i64 k ∧ k ≤ n ∧ Hd (m = .int .i64 (crowdK ls k : Nat)) ∧ Hd (Ext [] w wr)) (fun _ i _ => (n - intOf i).toNat)
  case atStart => exact ⟨0, rfl, Nat.zero_le _, hd rfl, hd (Ext.refl _ _)⟩
  case round =>
    obtain ⟨k, rfl, hk, HM, HE⟩ := hrel
    by_cases hlt : k < n
    · obtain ⟨b, o, rfl, hb, h0, h1, h2, h3⟩ := (HA.out.ext HE.out (by simp)).four (k := k) (by have := HL.out; omega)
      obtain ⟨p, hp⟩ : ∃ p, p = (lf ls k).fr := ⟨_, rfl⟩
      rw [← hp] at h1
      have HP := hd hp
      clear hp
      generalize (lf ls k).nd = x0 at h0
      generalize (lf ls k).tt = x2 at h2
      generalize (lf ls k).sz = x3 at h3
      have HW1 := hd (Blk.new wr 53 #[.int .i64 x0, .int .i64 p, .int .i64 x2, .int .i64 x3])
      have HE1 := hd (HE.out.alloc (.cells #[.int .i64 x0, .int .i64 p, .int .i64 x2, .int .i64 x3] 53))
      go_wp2_with fail
      go_loopw [6, 17] (fun c i w2 => ∃ j : Nat, i = .int .i64 j ∧ j ≤ n ∧ c = .int .i64 (liveK ls p j : Nat) ∧ Hd (Ext [] (wr.alloc (.cells #[.int .i64 x0, .int .i64 p, .int .i64 x2, .int .i64 x3] 53)) w2)) (fun _ i _ => (n - intOf i).toNat)
      case atStart => exact ⟨0, rfl, Nat.zero_le _, rfl, hd (Ext.refl _ _)⟩
      case round =>
        rename World => w2
        obtain ⟨j, rfl, hj, rfl, HE2⟩ := hrel
        have hlk := liveK_le ls p j
        by_cases hlt2 : j < n
        · obtain ⟨b2, o2, hbo, hb2, g0, g1, g2, g3⟩ := (HA.out.ext (HE1.out.trans HE2.out) (by simp)).four (k := j) (by have := HL.out; omega)
          cases hbo
          have hcs := liveK_succ ls p j
          have hlb : liveB ls p j = (decide ((lf ls j).fr ≤ p) && decide (p ≤ (lf ls j).tt)) := rfl
          rw [hlb] at hcs
          have HCS := hd hcs
          clear hcs hlb
          generalize (lf ls j).nd = y0 at g0
          generalize (lf ls j).fr = y1 at g1 HCS
          generalize (lf ls j).tt = y2 at g2 HCS
          generalize (lf ls j).sz = y3 at g3
          have hq := HW1.out.ext HE2.out (by simp)
          have qb := hq.cell
          have ql := hq.lt
          have HQ := hd (hq.alloc (.cells #[.int .i64 y0, .int .i64 y1, .int .i64 y2, .int .i64 y3] 53))
          clear hq
          by_cases c1 : y1 ≤ p
          · by_cases c2 : p ≤ y2
            · have HV : Hd (liveK ls p (j + 1) = liveK ls p j + 1) := hd (by rw [HCS.out]; simp [c1, c2])
              generalize liveK ls p j = c at *
              go_wp2_with fail
              go_roundw
              case rel => exact ⟨j + 1, by go_num, by omega, by rw [HV.out]; go_num, hd (HE2.out.alloc _)⟩
              case measure => simp [intOf]; omega
            · have HV : Hd (liveK ls p (j + 1) = liveK ls p j) := hd (by rw [HCS.out]; simp [c2])
              have c2b : decide (p ≤ y2) = false := by simpa using c2
              go_wp2_with fail
              go_roundw
              case rel => exact ⟨j + 1, by go_num, by omega, by rw [HV.out], hd (HE2.out.alloc _)⟩
              case measure => simp [intOf]; omega
          · have HV : Hd (liveK ls p (j + 1) = liveK ls p j) := hd (by rw [HCS.out]; simp [c1])
            have c1b : decide (y1 ≤ p) = false := by simpa using c1
            go_wp2_with fail
            go_roundw
            case rel => exact ⟨j + 1, by go_num, by omega, by rw [HV.out], hd (HE2.out.alloc _)⟩
            case measure => simp [intOf]; omega
        · have hjn : j = n := by omega
          subst hjn
          have HV : Hd (max (crowdK ls k) (liveK ls p j) = crowdK ls (k + 1)) := hd (by
            show _ = max (crowdK ls k) (liveN ls (lf ls k).fr)
            rw [← HP.out]
            unfold liveN liveK
            rw [HL.out])
          have hM := HM.out
          subst hM
          have hcb := crowdK_bd ls k
          generalize crowdK ls k = c at *
          generalize liveK ls p j = d at *
          go_wp2_with fail
          go_roundw
          case rel => exact ⟨k + 1, by go_num, by omega, hd (by rw [← HV.out]; congr 1; omega), hd (HE1.out.trans HE2.out)⟩
          case measure => simp [intOf]; omega
    · have hkn : k = n := by omega
      subst hkn
      have hM := HM.out
      subst hM
      go_wp2_with fail
      go_ret
      exact ⟨ret_int (by unfold crowdS; rw [HL.out]), HE.out⟩
end Go.Proofs.Ytedabpldigcffaa
