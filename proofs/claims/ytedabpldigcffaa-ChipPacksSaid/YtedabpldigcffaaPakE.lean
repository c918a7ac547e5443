/- The packer: what it holds; conflicts: the walk. Condition: right pairs, few sizes. -/
import Derived.Test.YtedabpldigcffaaPakD
namespace Go.Proofs.Ytedabpldigcffaa
open Go.RowKit
set_option linter.unusedSimpArgs false
set_option linter.unusedVariables false

/-- Block b begins with the ints ws; all its cells can be written. -/
def InB (w : World) (b : Nat) (ws : List Int) : Prop := ∃ cur, Blk w b 3 cur ∧ ∀ (k : Nat) (x : Int), ws[k]? = some x → cur[k]? = some (Value.int .i64 x)
theorem InB.ext {S : List Nat} {w w' : World} {b : Nat} {ws : List Int} (h : InB w b ws) (hE : Ext S w w') (hS : b ∉ S) : InB w' b ws := by
  obtain ⟨cur, hB, hc⟩ := h
  exact ⟨cur, hB.ext hE hS, hc⟩
theorem InB.lt {w : World} {b : Nat} {ws : List Int} (h : InB w b ws) : b < w.heap.size := by obtain ⟨cur, hB, _⟩ := h; exact hB.lt
theorem InB.cell {w : World} {b : Nat} {ws : List Int} (h : InB w b ws) {k : Nat} {x : Int} (hx : ws[k]? = some x) : w.cell? ⟨b, k, none⟩ = some (.int .i64 x) := by
  obtain ⟨cur, hB, hc⟩ := h
  rw [hB.cell]; exact hc k x hx
theorem InB.frozen {w : World} {b : Nat} {ws : List Int} (h : InB w b ws) (k : Nat) : w.frozen? ⟨b, k, none⟩ = false := by
  obtain ⟨cur, hB, hc⟩ := h; exact hB.frozen k
theorem InB.rd {w : World} {b : Nat} {ws : List Int} (h : InB w b ws) (n : Nat) : RdI w (some ⟨b, 0, none⟩) (ws.take n) :=
  .inr ⟨b, 0, rfl, fun k x hx => by
    rw [Nat.zero_add]
    rw [List.getElem?_take] at hx
    split at hx
    · exact h.cell hx
    · cases hx⟩
theorem InB.rda {w : World} {b : Nat} {ws : List Int} (h : InB w b ws) : RdI w (some ⟨b, 0, none⟩) ws :=
  .inr ⟨b, 0, rfl, fun k x hx => by rw [Nat.zero_add]; exact h.cell hx⟩
theorem InB.set {w : World} {b : Nat} {ws : List Int} (h : InB w b ws) (i : Nat) (y : Int) : InB (w.setCell ⟨b, i, none⟩ (.int .i64 y)) b (ws.set i y) := by
  obtain ⟨cur, hB, hc⟩ := h
  refine ⟨_, hB.set_ i _, fun k x hx => ?_⟩
  rw [List.getElem?_set] at hx
  by_cases hik : i = k
  · subst hik
    rw [if_pos rfl] at hx
    split at hx
    · rename_i hlt
      cases hx
      have := hc i _ (List.getElem?_eq_getElem hlt)
      have h2 : i < cur.size := (Array.getElem?_eq_some_iff.1 this).1
      simp [h2]
    · cases hx
  · rw [if_neg hik] at hx
    rw [Array.getElem?_setIfInBounds_ne hik]
    exact hc k x hx
theorem InB.own {w : World} {base b n cap : Nat} {ws : List Int} (h : w.ownsRow base 3 1 (.slice (some ⟨b, 0, none⟩) n cap) n (ws.map (.int .i64))) : InB w b ws ∧ n ≤ cap := by
  obtain ⟨hl, hx⟩ := h
  rcases hx with ⟨h0, _⟩ | ⟨g', cap', cur, h0, _, hg, hnc, hm, hc, ht⟩
  · cases h0
  · cases h0
    refine ⟨⟨cur, hg, fun k x hx => ?_⟩, hnc⟩
    have h1 : (ws.map (Value.int .i64))[k]? = some (.int .i64 x) := by rw [List.getElem?_map, hx]; rfl
    have hlt : k < n * 1 := by rw [← hl]; exact (List.getElem?_eq_some_iff.1 h1).1
    rw [← ht, List.getElem?_take, if_pos hlt] at h1
    simpa using h1

def Clon0 (w : World) (e : Ending) (w' : World) : Prop := ∃ A cap, e = .returned (.slice A 0 cap) ∧ Ext [] w w'
set_option maxRecDepth 100000 in
theorem clone_none (A : Option Addr) (cap : Nat) (w : World) : Calls Try.prog 30 #[.slice A 0 cap] w (Clon0 w) := by
  cases A with
  | none =>
    have heq : ∀ W : World, (binOp .eql 22 (.slice none 0 cap) (.slice none 0 0)).run Try.prog W = .ok (.bool true) W := fun W => Go.Lib.run_eql_slice_nil (P := Try.prog) (w := W) (h := Try.underlying22) ..
    go_enter Try.func30, Try.ntmps30
    go_wp2_with fail
    go_ret
    exact ⟨_, _, rfl, Ext.refl _ _⟩
  | some a =>
    obtain ⟨i0, hi0, hz0, hz1, hz2⟩ := info_parts (show ((Try.prog).info? 3).map (fun i => (i.zero, i.size, i.bytes)) = some (some (.int .i64 0), 1, 8) by kernel_rfl)
    have heq : ∀ W : World, (binOp .eql 22 (.slice (some a) 0 cap) (.slice none 0 0)).run Try.prog W = .ok (.bool false) W := fun W => Go.Lib.run_eql_slice_nil (P := Try.prog) (w := W) (h := Try.underlying22) ..
    have hB : Blk (w.alloc (.cells #[] 3)) w.heap.size 3 #[] := Blk.new _ _ _
    obtain ⟨w2, hr, hE⟩ : ∃ w2, (∀ ty, (Builtin.append_ #[22, 22] ty #[.slice (some ⟨w.heap.size, 0, none⟩) 0 0, .slice (some a) 0 cap]).run Try.prog (w.alloc (.cells #[] 3)) = .ok (.slice (some ⟨w.heap.size, 0, none⟩) 0 0) w2) ∧ Ext [w.heap.size] (w.alloc (.cells #[] 3)) w2 :=
      ⟨_, fun ty => run_append_room (P := Try.prog) _ 22 ty 3 i0 Try.underlying22 hi0 w.heap.size 0 0 _ hB a 0 cap [] (by simp) (by simp) (by simp) (by omega) (by simp),
        ⟨rfl, rfl, rfl, by simp [World.setRow], fun i _ hi => setRow_other _ _ i _ (by simpa using hi)⟩⟩
    have HE : Hd (Ext [] w w2) := hd (((Ext.refl [] w).alloc _).step hE (fun x hx => .inr (by rw [List.mem_singleton.1 hx]; exact Nat.le_refl _)))
    clear hE hB
    go_enter Try.func30, Try.ntmps30
    go_wp2_with (at_builtin; refine Lib.wpList_append_run _ rfl _ _ _ _ rfl _ _ rfl rfl _ _ (hr _) ?_)
    go_ret
    exact ⟨_, _, rfl, by first | exact HE.out | exact (Ext.refl _ _).alloc _⟩

def CloneL (ws : List Int) (n : Nat) (w : World) (e : Ending) (w' : World) : Prop :=
  ∃ A cap, e = .returned (.slice A n cap) ∧ Ext [] w w' ∧ (n = 0 ∨ ∃ g, A = some ⟨g, 0, none⟩ ∧ InB w' g ws ∧ n ≤ cap ∧ w.heap.size ≤ g)
theorem clone_len (A : Option Addr) (cap n : Nat) (ws : List Int) (w : World) (h : RdI w A ws) (hx : ws.length = n) (hl : n ≤ 1000000) :
    Calls Try.prog 30 #[.slice A n cap] w (CloneL ws n w) := by
  by_cases h0 : n = 0
  · subst h0
    refine (clone_none A cap w).mono ?_
    rintro e w' ⟨A', cap', rfl, hE⟩
    exact ⟨A', cap', rfl, hE, .inl rfl⟩
  · rcases h with h | ⟨b, o, rfl, hc⟩
    · rw [h] at hx; simp at hx; omega
    · have := cloneInt_any b o cap ws w hc (by omega) (by omega)
      rw [hx] at this
      refine this.mono ?_
      rintro e w' ⟨g, c', rfl, hE, ho⟩
      rw [hx] at ho ⊢
      obtain ⟨h1, h2⟩ := InB.own ho
      exact ⟨_, c', rfl, hE, .inr ⟨g, rfl, h1, h2, own_base ho g rfl⟩⟩


/-- The packer's cells. -/
def PkB (w : World) (G : Nat) (sz : Value) (prs : List Pr) (nowv bestv usv : Value) (bank least : Int) : Prop :=
  ∃ cs, Blk w G 76 cs ∧ cs.size = 42 ∧ cs[0]? = some sz ∧ (∀ i k, i < 6 → k < 6 → cs[1 + i * 6 + k]? = some (.int .i64 (cntP prs i k : Nat))) ∧ cs[37]? = some nowv ∧ cs[38]? = some bestv ∧ cs[39]? = some usv ∧ cs[40]? = some (.int .i64 bank) ∧ cs[41]? = some (.int .i64 least)
section
variable {w w' : World} {G : Nat} {sz nowv bestv usv : Value} {prs : List Pr} {bank least : Int}
theorem PkB.ext {S : List Nat} (h : PkB w G sz prs nowv bestv usv bank least) (hE : Ext S w w') (hS : G ∉ S) : PkB w' G sz prs nowv bestv usv bank least := by
  obtain ⟨cs, h0, h⟩ := h
  exact ⟨cs, h0.ext hE hS, h⟩
theorem PkB.lt (h : PkB w G sz prs nowv bestv usv bank least) : G < w.heap.size := by obtain ⟨cs, h0, _⟩ := h; exact h0.lt
theorem PkB.frozen (h : PkB w G sz prs nowv bestv usv bank least) (k : Nat) : w.frozen? ⟨G, k, none⟩ = false := by obtain ⟨cs, h0, _⟩ := h; exact h0.frozen k
theorem PkB.c0 (h : PkB w G sz prs nowv bestv usv bank least) : w.cell? ⟨G, 0, none⟩ = some sz := by obtain ⟨cs, h0, h1, h2, h3, h4, h5, h6, h7, h8⟩ := h; rw [h0.cell]; exact h2
theorem PkB.cp (h : PkB w G sz prs nowv bestv usv bank least) {i k : Nat} (hi : i < 6) (hk : k < 6) : w.cell? ⟨G, 1 + i * 6 + k, none⟩ = some (.int .i64 (cntP prs i k : Nat)) := by obtain ⟨cs, h0, h1, h2, h3, h4, h5, h6, h7, h8⟩ := h; rw [h0.cell]; exact h3 i k hi hk
theorem PkB.c37 (h : PkB w G sz prs nowv bestv usv bank least) : w.cell? ⟨G, 37, none⟩ = some nowv := by obtain ⟨cs, h0, h1, h2, h3, h4, h5, h6, h7, h8⟩ := h; rw [h0.cell]; exact h4
theorem PkB.c38 (h : PkB w G sz prs nowv bestv usv bank least) : w.cell? ⟨G, 38, none⟩ = some bestv := by obtain ⟨cs, h0, h1, h2, h3, h4, h5, h6, h7, h8⟩ := h; rw [h0.cell]; exact h5
theorem PkB.c39 (h : PkB w G sz prs nowv bestv usv bank least) : w.cell? ⟨G, 39, none⟩ = some usv := by obtain ⟨cs, h0, h1, h2, h3, h4, h5, h6, h7, h8⟩ := h; rw [h0.cell]; exact h6
theorem PkB.c40 (h : PkB w G sz prs nowv bestv usv bank least) : w.cell? ⟨G, 40, none⟩ = some (.int .i64 bank) := by obtain ⟨cs, h0, h1, h2, h3, h4, h5, h6, h7, h8⟩ := h; rw [h0.cell]; exact h7
theorem PkB.c41 (h : PkB w G sz prs nowv bestv usv bank least) : w.cell? ⟨G, 41, none⟩ = some (.int .i64 least) := by obtain ⟨cs, h0, h1, h2, h3, h4, h5, h6, h7, h8⟩ := h; rw [h0.cell]; exact h8
theorem PkB.far (h : PkB w G sz prs nowv bestv usv bank least) {p : Addr} (hp : G ≠ p.block) (u : Value) : PkB (w.setCell p u) G sz prs nowv bestv usv bank least := by
  obtain ⟨cs, h0, h⟩ := h
  exact ⟨cs, h0.far hp u, h⟩
theorem PkB.set37 (h : PkB w G sz prs nowv bestv usv bank least) (v : Value) : PkB (w.setCell ⟨G, 37, none⟩ v) G sz prs v bestv usv bank least := by
  obtain ⟨cs, h0, h1, h2, h3, h4, h5, h6, h7, h8⟩ := h
  refine ⟨_, h0.set_ 37 v, by simpa using h1, ?_, fun i k hi hk => ?_, ?_, ?_, ?_, ?_, ?_⟩
  · rw [Array.getElem?_setIfInBounds_ne (by omega)]; exact h2
  · rw [Array.getElem?_setIfInBounds_ne (by omega)]; exact h3 i k hi hk
  · simp [Array.getElem?_setIfInBounds, h1]
  · rw [Array.getElem?_setIfInBounds_ne (by omega)]; exact h5
  · rw [Array.getElem?_setIfInBounds_ne (by omega)]; exact h6
  · rw [Array.getElem?_setIfInBounds_ne (by omega)]; exact h7
  · rw [Array.getElem?_setIfInBounds_ne (by omega)]; exact h8
theorem PkB.set38 (h : PkB w G sz prs nowv bestv usv bank least) (v : Value) : PkB (w.setCell ⟨G, 38, none⟩ v) G sz prs nowv v usv bank least := by
  obtain ⟨cs, h0, h1, h2, h3, h4, h5, h6, h7, h8⟩ := h
  refine ⟨_, h0.set_ 38 v, by simpa using h1, ?_, fun i k hi hk => ?_, ?_, ?_, ?_, ?_, ?_⟩
  · rw [Array.getElem?_setIfInBounds_ne (by omega)]; exact h2
  · rw [Array.getElem?_setIfInBounds_ne (by omega)]; exact h3 i k hi hk
  · rw [Array.getElem?_setIfInBounds_ne (by omega)]; exact h4
  · simp [Array.getElem?_setIfInBounds, h1]
  · rw [Array.getElem?_setIfInBounds_ne (by omega)]; exact h6
  · rw [Array.getElem?_setIfInBounds_ne (by omega)]; exact h7
  · rw [Array.getElem?_setIfInBounds_ne (by omega)]; exact h8
theorem PkB.set41 (h : PkB w G sz prs nowv bestv usv bank least) (v : Int) : PkB (w.setCell ⟨G, 41, none⟩ (.int .i64 v)) G sz prs nowv bestv usv bank v := by
  obtain ⟨cs, h0, h1, h2, h3, h4, h5, h6, h7, h8⟩ := h
  refine ⟨_, h0.set_ 41 _, by simpa using h1, ?_, fun i k hi hk => ?_, ?_, ?_, ?_, ?_, ?_⟩
  · rw [Array.getElem?_setIfInBounds_ne (by omega)]; exact h2
  · rw [Array.getElem?_setIfInBounds_ne (by omega)]; exact h3 i k hi hk
  · rw [Array.getElem?_setIfInBounds_ne (by omega)]; exact h4
  · rw [Array.getElem?_setIfInBounds_ne (by omega)]; exact h5
  · rw [Array.getElem?_setIfInBounds_ne (by omega)]; exact h6
  · rw [Array.getElem?_setIfInBounds_ne (by omega)]; exact h7
  · simp [Array.getElem?_setIfInBounds, h1]
end
theorem allC_le (prs : List Pr) (p : List Nat) : ∀ i, i ≤ 6 → allC prs p i ≤ i * (6 * prs.length)
  | 0, _ => by simp [allC]
  | i + 1, h => by
    simp only [allC]
    have h1 := allC_le prs p i (by omega)
    have h2 := rowC_le prs p i i
    have h3 : i * prs.length ≤ 6 * prs.length := Nat.mul_le_mul_right _ (by omega)
    rw [Nat.succ_mul]
    omega
theorem allC_bd (prs : List Pr) (p : List Nat) (i k : Nat) (hi : i ≤ 6) (hk : k ≤ 6) (hl : prs.length ≤ 1000) : allC prs p i + rowC prs p i k ≤ 42000 := by
  have h1 := allC_le prs p i hi
  have h2 := rowC_le prs p i k
  have h3 : i * (6 * prs.length) ≤ 6 * 6000 := Nat.mul_le_mul hi (by omega)
  have h4 : k * prs.length ≤ 6 * 1000 := Nat.mul_le_mul hk hl
  omega

set_option maxHeartbeats 4000000 in
set_option maxRecDepth 100000 in
theorem conflicts_any (G m cap n : Nat) (A : Option Addr) (sz bestv usv : Value) (bank least : Int) (prs : List Pr) (p : List Nat) (w : World) (h : PkB w G sz prs (.slice A n cap) bestv usv bank least) (hr : RdI w A (nats p)) (hp : p.length = n) (hn : n ≤ 6) (hpr : PrOk m prs) (hpl : prs.length ≤ 1000) :
    Calls Try.prog 70 #[.pointer (some ⟨G, 0, none⟩)] w fun e w' => e = .returned (.int .i64 (conf prs p)) ∧ Ext [] w w' := by
  have H0 := hd h
  have HR := hd hr
  have HPL := hd hpl
  have HNP : Hd ((nats p).length = n) := hd (by rw [nats_length, hp])
  have HC : Hd (conf prs p = (allC prs p n : Nat)) := hd (by rw [allC_conf p prs hpr, hp])
  have q37 := h.c37
  have l37 := h.lt
  clear h hr hpr
  go_enter Try.func70, Try.ntmps70
  go_wp2_with fail
  go_loopw [3, 11] (fun v i wr => ∃ k : Nat, i = .int .i64 k ∧ k ≤ n ∧ Hd (v = .int .i64 (allC prs p k : Nat)) ∧ Hd (Ext [] w wr)) (fun _ i _ => (n - intOf i).toNat)
  case atStart => exact ⟨0, rfl, Nat.zero_le _, hd rfl, hd (Ext.refl _ _)⟩
  case round =>
    obtain ⟨i, rfl, hi, HV, HE⟩ := hrel
    have hv := HV.out
    subst hv
    clear HV q37 l37
    rename World => w1
    by_cases hlt : i < n
    · go_wp2_with fail
      go_loopw [3, 15] (fun v j wr => ∃ k : Nat, j = .int .i64 k ∧ k ≤ i ∧ Hd (v = .int .i64 (allC prs p i + rowC prs p i k : Nat)) ∧ Hd (Ext [] w wr)) (fun _ j _ => (i - intOf j).toNat)
      case atStart => exact ⟨0, rfl, Nat.zero_le _, hd rfl, HE⟩
      case round =>
        obtain ⟨k, rfl, hk, HV, HE2⟩ := hrel
        have hv := HV.out
        subst hv
        clear HV
        rename World => w2
        by_cases hlt2 : k < i
        · have h2 := H0.out.ext HE2.out (by simp)
          have q37 := h2.c37
          have l37 := h2.lt
          have qp := h2.cp (i := i) (k := k) (by omega) (by omega)
          have hr2 := HR.out.ext HE2.out (by simp)
          obtain ⟨b, o, rfl, lb, c1⟩ := hr2.at (k := i) (by rw [HNP.out]; exact hlt)
          obtain ⟨b', o', he, _, c2⟩ := hr2.at (k := k) (by rw [HNP.out]; omega)
          cases he
          rw [gi_nats] at c1 c2
          have hbd := allC_bd prs p i (k + 1) (by omega) (by omega) HPL.out
          have HRS : Hd (rowC prs p i (k + 1) = rowC prs p i k + if gn p i = gn p k then cntP prs i k else 0) := hd rfl
          simp only [rowC] at hbd
          clear h2 hr2
          generalize rowC prs p i k = rk at *
          generalize allC prs p i = ai at *
          generalize gn p i = u at *
          generalize gn p k = v at *
          generalize cntP prs i k = t at *
          by_cases huv : u = v
          · subst huv
            have HRS2 : Hd (rowC prs p i (k + 1) = rk + t) := hd (by rw [HRS.out, if_pos rfl])
            rw [if_pos rfl] at hbd
            go_wp2_with fail
            go_quiet (fail)
            go_wp2_with fail
            go_roundw
            case rel => exact ⟨k + 1, by go_num, by omega, hd (by rw [HRS2.out]; go_num), hd (HE2.out.drewN _)⟩
            case measure => simp [intOf]; omega
          · have hub : decide ((u : Int) = (v : Int)) = false := decide_eq_false (by omega)
            have hub2 : ((u : Int) == (v : Int)) = false := by simp; omega
            have HRS2 : Hd (rowC prs p i (k + 1) = rk) := hd (by rw [HRS.out, if_neg huv, Nat.add_zero])
            go_wp2_with fail
            go_quiet (fail)
            go_wp2_with fail
            go_roundw
            case rel => exact ⟨k + 1, by go_num, by omega, hd (by rw [HRS2.out]), hd (HE2.out.drewN _)⟩
            case measure => simp [intOf]; omega
        · have hki : k = i := by omega
          subst hki
          go_wp2_with fail
          go_roundw
          case rel => exact ⟨k + 1, by go_num, by omega, hd rfl, HE2⟩
          case measure => simp [intOf]; omega
    · have hin : i = n := by omega
      subst hin
      go_wp2_with fail
      go_ret
      exact ⟨by rw [HC.out]; rfl, HE.out⟩
end Go.Proofs.Ytedabpldigcffaa
