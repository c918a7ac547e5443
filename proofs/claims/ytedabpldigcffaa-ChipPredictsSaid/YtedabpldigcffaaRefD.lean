/- The specification's closures over an instruction's fields: has. -/
import Derived.Test.YtedabpldigcffaaRefA
namespace Go.Proofs.Ytedabpldigcffaa
open Go.RowKit
set_option linter.unusedSimpArgs false
set_option linter.unusedVariables false

/-- A field has the name. -/
def hasF (fs : List Fld) (c : Int) : Bool := fs.any fun f => f.name == c

/-- The innermost closure: is it this name? -/
theorem isName_any (f : Fld) (b : Nat) (c : Int) (w : World) (hp : w.cell? ⟨b, 0, none⟩ = some (.int .u8 c)) :
    Calls Try.prog 96 #[.agg #[.int .u8 f.name, .string f.kind, .int .i64 f.low, .int .i64 f.high], .pointer (some ⟨b, 0, none⟩)] w fun e w' => e = .returned (.bool (f.name == c)) ∧ Ext [] w w' := by
  have hlt := World.block_lt_of_cell? w _ hp
  simp only at hlt
  go_enter Try.func96, Try.ntmps96
  go_wp2_with fail
  go_ret
  exact ⟨rfl, (Ext.refl _ _).alloc _⟩

set_option maxHeartbeats 1000000 in
theorem indexF_any (A : Option Addr) (cap : Nat) (fs : List Fld) (b : Nat) (c : Int) (w : World) (h : RdF w A fs) (hp : w.cell? ⟨b, 0, none⟩ = some (.int .u8 c)) (hl : fs.length ≤ 100) :
    Calls Try.prog 116 #[.slice A fs.length cap, .func (.func 96) #[] #[.pointer (some ⟨b, 0, none⟩)]] w fun e w' => ∃ r : Int, e = .returned (.int .i64 r) ∧ (0 ≤ r ↔ hasF fs c = true) ∧ Ext [] w w' := by
  have HH := hd h
  have HP := hd hp
  clear h hp
  go_enter Try.func116, Try.ntmps116
  go_wp2_with fail
  go_loopw [8] (fun i wr => ∃ k : Nat, i = .int .i64 k ∧ k ≤ fs.length ∧ Hd (∀ j y, j < k → fs[j]? = some y → (y.name == c) = false) ∧ Ext [] w wr) (fun i _ => (fs.length - intOf i).toNat)
  case atStart => exact ⟨0, rfl, Nat.zero_le _, hd fun j y hj => absurd hj (by omega), Ext.refl _ _⟩
  case round =>
    obtain ⟨k, rfl, hk, hn, hE⟩ := hrel
    by_cases hlt : k < fs.length
    · obtain ⟨f, hf⟩ : ∃ f, fs[k]? = some f := ⟨_, List.getElem?_eq_getElem hlt⟩
      rcases HH.out.ext hE (by simp) with h0 | ⟨g, o, rfl, hc⟩
      · rw [h0] at hlt; simp at hlt
      · have h0 := hc k f hf 0 _ rfl
        have h1 := hc k f hf 1 _ rfl
        have h2 := hc k f hf 2 _ rfl
        have h3 := hc k f hf 3 _ rfl
        simp only [Nat.add_zero] at h0
        have HF := hd hf
        have HE := hd hE
        clear hc hf hE
        go_wp2_with fail
        refine (isName_any f b c _ (HE.out.held HP.out (by simp))).mono ?_
        rintro e w2 ⟨rfl, hE2⟩
        have HE2 := hd (HE.out.trans hE2)
        clear hE2 h0 h1 h2 h3
        cases hq : (f.name == c)
        · have HQ := hd hq
          clear hq
          go_wp2_with fail
          go_round
          case rel =>
            refine ⟨k + 1, by go_num, by omega, hd fun j z hj hz => ?_, HE2.out⟩
            rcases Nat.lt_or_ge j k with h1 | h1
            · exact hn.out j z h1 hz
            · have : j = k := by omega
              subst this
              rw [HF.out] at hz
              cases hz
              exact HQ.out
          case measure => simp [intOf]; omega
        · have HQ := hd hq
          clear hq
          go_wp2_with fail
          go_ret
          refine ⟨_, rfl, ?_, HE2.out⟩
          constructor
          · intro _
            exact List.any_eq_true.2 ⟨f, List.mem_of_getElem? HF.out, HQ.out⟩
          · intro _; omega
    · have HE := hd hE
      clear hE
      go_wp2_with fail
      go_ret
      refine ⟨_, rfl, ?_, HE.out⟩
      constructor
      · intro h0; omega
      · intro hm
        obtain ⟨f, hf, hq⟩ := List.any_eq_true.1 hm
        obtain ⟨i, hi⟩ := List.getElem?_of_mem hf
        have hil := (List.getElem?_eq_some_iff.1 hi).1
        have := hn.out i f (by omega) hi
        rw [hq] at this
        cases this

theorem containsF_any (A : Option Addr) (cap : Nat) (fs : List Fld) (b : Nat) (c : Int) (w : World) (h : RdF w A fs) (hp : w.cell? ⟨b, 0, none⟩ = some (.int .u8 c)) (hl : fs.length ≤ 100) :
    Calls Try.prog 95 #[.slice A fs.length cap, .func (.func 96) #[] #[.pointer (some ⟨b, 0, none⟩)]] w fun e w' => e = .returned (.bool (hasF fs c)) ∧ Ext [] w w' := by
  go_enter Try.func95, Try.ntmps95
  go_wp2_with fail
  refine (indexF_any A cap fs b c w h hp hl).mono ?_
  rintro e w' ⟨r, rfl, hr, hE⟩
  have HR := hd hr
  have HE := hd hE
  clear hr hE
  go_wp2_with fail
  go_ret
  exact ⟨ret_bool (by rw [Bool.eq_iff_iff]; simp only [decide_eq_true_eq]; exact HR.out), HE.out⟩

/-- has(name). -/
theorem has_any (A : Option Addr) (cap : Nat) (fs : List Fld) (b : Nat) (c : Int) (w : World) (h : RdF w A fs) (hp : w.cell? ⟨b, 0, none⟩ = some (.slice A fs.length cap)) (hl : fs.length ≤ 100) :
    Calls Try.prog 94 #[.int .u8 c, .pointer (some ⟨b, 0, none⟩)] w fun e w' => e = .returned (.bool (hasF fs c)) ∧ Ext [] w w' := by
  have hlt := World.block_lt_of_cell? w _ hp
  simp only at hlt
  have HH := hd h
  clear h
  have hmf : ∀ (fn : Fn) (first cap : Array Value) (w : World), (Instr.makeFunc fn first cap).run Try.prog w = .ok (.func fn first cap) w := fun _ _ _ _ => rfl
  go_enter Try.func94, Try.ntmps94
  go_wp2_with fail
  refine (containsF_any A cap fs w.heap.size c _ (HH.out.ext ((Ext.refl [] w).alloc _) (by simp)) ?_ hl).mono ?_
  · rw [(Blk.new w _ #[.int .u8 c]).cell]; rfl
  rintro e w' ⟨rfl, hE⟩
  have HE := hd hE
  clear hE
  go_wp2_with fail
  go_ret
  exact ⟨rfl, ((Ext.refl _ _).alloc _).trans HE.out⟩
end Go.Proofs.Ytedabpldigcffaa
