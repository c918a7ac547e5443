/- Lists of lists of ints: slices.ContainsFunc at the closures of Ring, ringFault and ServeRings. -/
import Derived.Test.YtgbjlccgnfcnaaaGreatSvY
import Derived.Lib.SliceRun
namespace Go.Proofs.YtgbjlccgnfcnaaaGreat
open Go.RowKit
set_option linter.unusedSimpArgs false
set_option linter.unusedVariables false

/-- A list and where it lies. -/
structure Pt where
  A : Option Addr
  c : Nat
  xs : List Int
/-- Lists laid in a block. -/
def PtsIn (w : World) (b : Nat) (L : List Pt) : Prop := ∀ (i : Nat) (x : Pt), L[i]? = some x → w.cell? ⟨b, i, none⟩ = some (.slice x.A x.xs.length x.c) ∧ RdI w x.A x.xs ∧ x.xs.length ≤ 100000
theorem PtsIn.ext {w w' : World} {b : Nat} {L : List Pt} (h : PtsIn w b L) (hE : Ext [] w w') : PtsIn w' b L := fun i x hx => by
  obtain ⟨h1, h2, h3⟩ := h i x hx
  exact ⟨hE.held h1 (by simp), h2.ext hE (by simp), h3⟩
theorem PtsIn.at {w : World} {b : Nat} {L : List Pt} (h : PtsIn w b L) {i : Nat} (hi : i < L.length) : ∃ A c n xs, L[i]? = some ⟨A, c, xs⟩ ∧ xs.length = n ∧ w.cell? ⟨b, i, none⟩ = some (.slice A n c) ∧ RdI w A xs ∧ n ≤ 100000 := by
  obtain ⟨h1, h2, h3⟩ := h i _ (List.getElem?_eq_getElem hi)
  exact ⟨_, _, _, _, List.getElem?_eq_getElem hi, rfl, h1, h2, h3⟩
theorem any_upto {α : Type} {L : List α} {p : α → Bool} {n : Nat} (hn : L.length = n) (h : ∀ (j : Nat) (x : α), j < n → L[j]? = some x → p x = false) : L.any p = false := by
  rw [List.any_eq_false]
  intro x hx
  obtain ⟨j, hj, rfl⟩ := List.getElem_of_mem hx
  rw [h j _ (by omega) (List.getElem?_eq_getElem hj)]
  simp
theorem any_at {α : Type} {L : List α} {p : α → Bool} {i : Nat} {x : α} (h : L[i]? = some x) (hp : p x = true) : L.any p = true := List.any_eq_true.2 ⟨x, List.mem_of_getElem? h, hp⟩
theorem ne_nat (a b : Nat) : ((a : Int) != (b : Int)) = decide (a ≠ b) := by
  by_cases h : a = b
  · simp [h]
  · have h2 : (a : Int) ≠ b := by omega
    simp [h, h2]
/-- What IndexFunc answers. -/
def IdxP (t : Bool) (w : World) (e : Ending) (w' : World) : Prop := ∃ r : Int, e = .returned (.int .i64 r) ∧ decide (0 ≤ r) = t ∧ Ext [] w w'
def HasP (t : Bool) (w : World) (e : Ending) (w' : World) : Prop := e = .returned (.bool t) ∧ Ext [] w w'

def over1 (x : Pt) : Bool := decide (1024 < x.xs.length)
def odd1 (n0 : Nat) (x : Pt) : Bool := decide (x.xs.length ≠ n0)
def unl1 (s : List Int) (x : Pt) : Bool := !decide (x.xs = s)

set_option maxRecDepth 100000 in
theorem rA_any (A : Option Addr) (n c : Nat) (xs : List Int)  (w : World) (hR : RdI w A xs) (hx : xs.length = n) (hn : n ≤ 100000)  :
    Calls Tryz.prog 47 #[.slice A n c] w (HasP (over1 ⟨A, c, xs⟩) w) := by
  have HX := hd hx
  clear hR hx
  go_enter Tryz.func47, Tryz.ntmps47
  go_wp2_with fail
  go_ret
  exact ⟨ret_bool (by simp only [over1, HX.o]; first | (apply decide_eq_decide.2; omega) | (simp; omega)), Ext.refl _ _⟩
set_option maxRecDepth 100000 in
theorem rA_index (b n cap : Nat) (L : List Pt)  (w : World) (h : PtsIn w b L) (hl : L.length = n) (hn9 : n ≤ 100000)  :
    Calls Tryz.prog 55 #[.slice (some ⟨b, 0, none⟩) n cap, .func (.func 47) #[] #[]] w (IdxP (L.any (over1)) w) := by
  have HP := hd h
  have HL := hd hl

  clear h hl
  go_enter Tryz.func55, Tryz.ntmps55
  go_wp2_with fail
  go_loopw [8] (fun i wr => ∃ k : Nat, i = .int .i64 k ∧ k ≤ n ∧ Hd (Ext [] w wr) ∧ Hd (∀ (j : Nat) (x : Pt), j < k → L[j]? = some x → over1 x = false)) (fun i _ => (n - intOf i).toNat)
  case atStart => exact ⟨0, rfl, Nat.zero_le _, hd (Ext.refl _ _), hd fun j x hj => absurd hj (by omega)⟩
  case round =>
    obtain ⟨k, rfl, hk, HE, HN⟩ := hrel
    rename World => wq
    by_cases hlt : k < n
    · obtain ⟨A, c, m, xs, hx, hm, hc, hR, hm9⟩ := (HP.o.ext HE.o).at (i := k) (by have := HL.o; omega)
      have HX := hd hx
      have HM := hd hm
      have HR := hd hR
      clear hx hm hR
      go_wp2_with fail
      refine (rA_any A m c xs  wq HR.o HM.o hm9 ).mono ?_
      rintro e w' ⟨rfl, hE⟩
      have HE2 := hd (HE.o.trans hE)
      clear hE
      cases hp : over1 ⟨A, c, xs⟩
      · have HQ := hd hp
        clear hp
        go_wp2_with fail
        go_roundw
        case rel =>
          refine ⟨k + 1, by go_num, by omega, HE2, hd fun j x hj hx => ?_⟩
          rcases Nat.lt_or_ge j k with h1 | h1
          · exact HN.o j x h1 hx
          · have : j = k := by omega
            subst this
            have := HX.o.symm.trans hx
            cases this
            exact HQ.o
        case measure => simp [intOf]; omega
      · have HQ := hd hp
        clear hp
        go_wp2_with fail
        go_ret
        exact ⟨_, rfl, by rw [any_at HX.o HQ.o]; simp, HE2.o⟩
    · go_wp2_with fail
      go_ret
      exact ⟨_, rfl, by rw [any_upto HL.o (fun j x hj hx => HN.o j x (by omega) hx)]; rfl, HE.o⟩
theorem rA_has (b n cap : Nat) (L : List Pt)  (w : World) (h : PtsIn w b L) (hl : L.length = n) (hn9 : n ≤ 100000)  :
    Calls Tryz.prog 26 #[.slice (some ⟨b, 0, none⟩) n cap, .func (.func 47) #[] #[]] w (HasP (L.any (over1)) w) := by
  have HI := hd (rA_index b n cap L  w h hl hn9 )
  clear h hl
  go_enter Tryz.func26, Tryz.ntmps26
  go_wp2_with fail
  refine HI.o.mono ?_
  rintro e w' ⟨r, rfl, hr, hE⟩
  have HR := hd hr
  have HE := hd hE
  clear hr hE
  go_wp2_with fail
  go_ret
  exact ⟨ret_bool (by rw [← HR.o]), HE.o⟩

set_option maxRecDepth 100000 in
theorem rB_any (A : Option Addr) (n c : Nat) (xs : List Int) (h0 b0 m0 c0 n0 d0 : Nat) (A0 : Option Addr) (w : World) (hR : RdI w A xs) (hx : xs.length = n) (hn : n ≤ 100000) (hc0 : w.cell? ⟨h0, 0, none⟩ = some (.slice (some ⟨b0, 0, none⟩) m0 c0)) (hm0 : 0 < m0) (hd0 : w.cell? ⟨b0, 0, none⟩ = some (.slice A0 n0 d0)) (hm8 : m0 ≤ 100000) :
    Calls Tryz.prog 48 #[.slice A n c, .pointer (some ⟨h0, 0, none⟩)] w (HasP (odd1 n0 ⟨A, c, xs⟩) w) := by
  have hlt0 := World.block_lt_of_cell? w _ hc0
  have hlt1 := World.block_lt_of_cell? w _ hd0
  simp only at hlt0 hlt1
  have HX := hd hx
  clear hR hx
  go_enter Tryz.func48, Tryz.ntmps48
  go_wp2_with fail
  go_ret
  exact ⟨ret_bool (by simp only [odd1, HX.o]; exact ne_nat n n0), Ext.refl _ _⟩
set_option maxRecDepth 100000 in
theorem rB_index (b n cap : Nat) (L : List Pt) (h0 b0 m0 c0 n0 d0 : Nat) (A0 : Option Addr) (w : World) (h : PtsIn w b L) (hl : L.length = n) (hn9 : n ≤ 100000) (hc0 : w.cell? ⟨h0, 0, none⟩ = some (.slice (some ⟨b0, 0, none⟩) m0 c0)) (hm0 : 0 < m0) (hd0 : w.cell? ⟨b0, 0, none⟩ = some (.slice A0 n0 d0)) (hm8 : m0 ≤ 100000) :
    Calls Tryz.prog 55 #[.slice (some ⟨b, 0, none⟩) n cap, .func (.func 48) #[] #[.pointer (some ⟨h0, 0, none⟩)]] w (IdxP (L.any (odd1 n0)) w) := by
  have HP := hd h
  have HL := hd hl
  have HC := hd hc0
  have HD := hd hd0
  clear hc0 hd0
  clear h hl
  go_enter Tryz.func55, Tryz.ntmps55
  go_wp2_with fail
  go_loopw [8] (fun i wr => ∃ k : Nat, i = .int .i64 k ∧ k ≤ n ∧ Hd (Ext [] w wr) ∧ Hd (∀ (j : Nat) (x : Pt), j < k → L[j]? = some x → odd1 n0 x = false)) (fun i _ => (n - intOf i).toNat)
  case atStart => exact ⟨0, rfl, Nat.zero_le _, hd (Ext.refl _ _), hd fun j x hj => absurd hj (by omega)⟩
  case round =>
    obtain ⟨k, rfl, hk, HE, HN⟩ := hrel
    rename World => wq
    by_cases hlt : k < n
    · obtain ⟨A, c, m, xs, hx, hm, hc, hR, hm9⟩ := (HP.o.ext HE.o).at (i := k) (by have := HL.o; omega)
      have HX := hd hx
      have HM := hd hm
      have HR := hd hR
      clear hx hm hR
      go_wp2_with fail
      refine (rB_any A m c xs h0 b0 m0 c0 n0 d0 A0 wq HR.o HM.o hm9 (HE.o.held HC.o (by simp)) hm0 (HE.o.held HD.o (by simp)) hm8).mono ?_
      rintro e w' ⟨rfl, hE⟩
      have HE2 := hd (HE.o.trans hE)
      clear hE
      cases hp : odd1 n0 ⟨A, c, xs⟩
      · have HQ := hd hp
        clear hp
        go_wp2_with fail
        go_roundw
        case rel =>
          refine ⟨k + 1, by go_num, by omega, HE2, hd fun j x hj hx => ?_⟩
          rcases Nat.lt_or_ge j k with h1 | h1
          · exact HN.o j x h1 hx
          · have : j = k := by omega
            subst this
            have := HX.o.symm.trans hx
            cases this
            exact HQ.o
        case measure => simp [intOf]; omega
      · have HQ := hd hp
        clear hp
        go_wp2_with fail
        go_ret
        exact ⟨_, rfl, by rw [any_at HX.o HQ.o]; simp, HE2.o⟩
    · go_wp2_with fail
      go_ret
      exact ⟨_, rfl, by rw [any_upto HL.o (fun j x hj hx => HN.o j x (by omega) hx)]; rfl, HE.o⟩
theorem rB_has (b n cap : Nat) (L : List Pt) (h0 b0 m0 c0 n0 d0 : Nat) (A0 : Option Addr) (w : World) (h : PtsIn w b L) (hl : L.length = n) (hn9 : n ≤ 100000) (hc0 : w.cell? ⟨h0, 0, none⟩ = some (.slice (some ⟨b0, 0, none⟩) m0 c0)) (hm0 : 0 < m0) (hd0 : w.cell? ⟨b0, 0, none⟩ = some (.slice A0 n0 d0)) (hm8 : m0 ≤ 100000) :
    Calls Tryz.prog 26 #[.slice (some ⟨b, 0, none⟩) n cap, .func (.func 48) #[] #[.pointer (some ⟨h0, 0, none⟩)]] w (HasP (L.any (odd1 n0)) w) := by
  have HI := hd (rB_index b n cap L h0 b0 m0 c0 n0 d0 A0 w h hl hn9 hc0 hm0 hd0 hm8)
  clear h hl
  go_enter Tryz.func26, Tryz.ntmps26
  go_wp2_with fail
  refine HI.o.mono ?_
  rintro e w' ⟨r, rfl, hr, hE⟩
  have HR := hd hr
  have HE := hd hE
  clear hr hE
  go_wp2_with fail
  go_ret
  exact ⟨ret_bool (by rw [← HR.o]), HE.o⟩

set_option maxRecDepth 100000 in
theorem fA_any (A : Option Addr) (n c : Nat) (xs : List Int)  (w : World) (hR : RdI w A xs) (hx : xs.length = n) (hn : n ≤ 100000)  :
    Calls Tryz.prog 51 #[.slice A n c] w (HasP (over1 ⟨A, c, xs⟩) w) := by
  have HX := hd hx
  clear hR hx
  go_enter Tryz.func51, Tryz.ntmps51
  go_wp2_with fail
  go_ret
  exact ⟨ret_bool (by simp only [over1, HX.o]; first | (apply decide_eq_decide.2; omega) | (simp; omega)), Ext.refl _ _⟩
set_option maxRecDepth 100000 in
theorem fA_index (b n cap : Nat) (L : List Pt)  (w : World) (h : PtsIn w b L) (hl : L.length = n) (hn9 : n ≤ 100000)  :
    Calls Tryz.prog 55 #[.slice (some ⟨b, 0, none⟩) n cap, .func (.func 51) #[] #[]] w (IdxP (L.any (over1)) w) := by
  have HP := hd h
  have HL := hd hl

  clear h hl
  go_enter Tryz.func55, Tryz.ntmps55
  go_wp2_with fail
  go_loopw [8] (fun i wr => ∃ k : Nat, i = .int .i64 k ∧ k ≤ n ∧ Hd (Ext [] w wr) ∧ Hd (∀ (j : Nat) (x : Pt), j < k → L[j]? = some x → over1 x = false)) (fun i _ => (n - intOf i).toNat)
  case atStart => exact ⟨0, rfl, Nat.zero_le _, hd (Ext.refl _ _), hd fun j x hj => absurd hj (by omega)⟩
  case round =>
    obtain ⟨k, rfl, hk, HE, HN⟩ := hrel
    rename World => wq
    by_cases hlt : k < n
    · obtain ⟨A, c, m, xs, hx, hm, hc, hR, hm9⟩ := (HP.o.ext HE.o).at (i := k) (by have := HL.o; omega)
      have HX := hd hx
      have HM := hd hm
      have HR := hd hR
      clear hx hm hR
      go_wp2_with fail
      refine (fA_any A m c xs  wq HR.o HM.o hm9 ).mono ?_
      rintro e w' ⟨rfl, hE⟩
      have HE2 := hd (HE.o.trans hE)
      clear hE
      cases hp : over1 ⟨A, c, xs⟩
      · have HQ := hd hp
        clear hp
        go_wp2_with fail
        go_roundw
        case rel =>
          refine ⟨k + 1, by go_num, by omega, HE2, hd fun j x hj hx => ?_⟩
          rcases Nat.lt_or_ge j k with h1 | h1
          · exact HN.o j x h1 hx
          · have : j = k := by omega
            subst this
            have := HX.o.symm.trans hx
            cases this
            exact HQ.o
        case measure => simp [intOf]; omega
      · have HQ := hd hp
        clear hp
        go_wp2_with fail
        go_ret
        exact ⟨_, rfl, by rw [any_at HX.o HQ.o]; simp, HE2.o⟩
    · go_wp2_with fail
      go_ret
      exact ⟨_, rfl, by rw [any_upto HL.o (fun j x hj hx => HN.o j x (by omega) hx)]; rfl, HE.o⟩
theorem fA_has (b n cap : Nat) (L : List Pt)  (w : World) (h : PtsIn w b L) (hl : L.length = n) (hn9 : n ≤ 100000)  :
    Calls Tryz.prog 26 #[.slice (some ⟨b, 0, none⟩) n cap, .func (.func 51) #[] #[]] w (HasP (L.any (over1)) w) := by
  have HI := hd (fA_index b n cap L  w h hl hn9 )
  clear h hl
  go_enter Tryz.func26, Tryz.ntmps26
  go_wp2_with fail
  refine HI.o.mono ?_
  rintro e w' ⟨r, rfl, hr, hE⟩
  have HR := hd hr
  have HE := hd hE
  clear hr hE
  go_wp2_with fail
  go_ret
  exact ⟨ret_bool (by rw [← HR.o]), HE.o⟩

set_option maxRecDepth 100000 in
theorem fB_any (A : Option Addr) (n c : Nat) (xs : List Int) (h0 b0 m0 c0 n0 d0 : Nat) (A0 : Option Addr) (w : World) (hR : RdI w A xs) (hx : xs.length = n) (hn : n ≤ 100000) (hc0 : w.cell? ⟨h0, 0, none⟩ = some (.slice (some ⟨b0, 0, none⟩) m0 c0)) (hm0 : 0 < m0) (hd0 : w.cell? ⟨b0, 0, none⟩ = some (.slice A0 n0 d0)) (hm8 : m0 ≤ 100000) :
    Calls Tryz.prog 52 #[.slice A n c, .pointer (some ⟨h0, 0, none⟩)] w (HasP (odd1 n0 ⟨A, c, xs⟩) w) := by
  have hlt0 := World.block_lt_of_cell? w _ hc0
  have hlt1 := World.block_lt_of_cell? w _ hd0
  simp only at hlt0 hlt1
  have HX := hd hx
  clear hR hx
  go_enter Tryz.func52, Tryz.ntmps52
  go_wp2_with fail
  go_ret
  exact ⟨ret_bool (by simp only [odd1, HX.o]; exact ne_nat n n0), Ext.refl _ _⟩
set_option maxRecDepth 100000 in
theorem fB_index (b n cap : Nat) (L : List Pt) (h0 b0 m0 c0 n0 d0 : Nat) (A0 : Option Addr) (w : World) (h : PtsIn w b L) (hl : L.length = n) (hn9 : n ≤ 100000) (hc0 : w.cell? ⟨h0, 0, none⟩ = some (.slice (some ⟨b0, 0, none⟩) m0 c0)) (hm0 : 0 < m0) (hd0 : w.cell? ⟨b0, 0, none⟩ = some (.slice A0 n0 d0)) (hm8 : m0 ≤ 100000) :
    Calls Tryz.prog 55 #[.slice (some ⟨b, 0, none⟩) n cap, .func (.func 52) #[] #[.pointer (some ⟨h0, 0, none⟩)]] w (IdxP (L.any (odd1 n0)) w) := by
  have HP := hd h
  have HL := hd hl
  have HC := hd hc0
  have HD := hd hd0
  clear hc0 hd0
  clear h hl
  go_enter Tryz.func55, Tryz.ntmps55
  go_wp2_with fail
  go_loopw [8] (fun i wr => ∃ k : Nat, i = .int .i64 k ∧ k ≤ n ∧ Hd (Ext [] w wr) ∧ Hd (∀ (j : Nat) (x : Pt), j < k → L[j]? = some x → odd1 n0 x = false)) (fun i _ => (n - intOf i).toNat)
  case atStart => exact ⟨0, rfl, Nat.zero_le _, hd (Ext.refl _ _), hd fun j x hj => absurd hj (by omega)⟩
  case round =>
    obtain ⟨k, rfl, hk, HE, HN⟩ := hrel
    rename World => wq
    by_cases hlt : k < n
    · obtain ⟨A, c, m, xs, hx, hm, hc, hR, hm9⟩ := (HP.o.ext HE.o).at (i := k) (by have := HL.o; omega)
      have HX := hd hx
      have HM := hd hm
      have HR := hd hR
      clear hx hm hR
      go_wp2_with fail
      refine (fB_any A m c xs h0 b0 m0 c0 n0 d0 A0 wq HR.o HM.o hm9 (HE.o.held HC.o (by simp)) hm0 (HE.o.held HD.o (by simp)) hm8).mono ?_
      rintro e w' ⟨rfl, hE⟩
      have HE2 := hd (HE.o.trans hE)
      clear hE
      cases hp : odd1 n0 ⟨A, c, xs⟩
      · have HQ := hd hp
        clear hp
        go_wp2_with fail
        go_roundw
        case rel =>
          refine ⟨k + 1, by go_num, by omega, HE2, hd fun j x hj hx => ?_⟩
          rcases Nat.lt_or_ge j k with h1 | h1
          · exact HN.o j x h1 hx
          · have : j = k := by omega
            subst this
            have := HX.o.symm.trans hx
            cases this
            exact HQ.o
        case measure => simp [intOf]; omega
      · have HQ := hd hp
        clear hp
        go_wp2_with fail
        go_ret
        exact ⟨_, rfl, by rw [any_at HX.o HQ.o]; simp, HE2.o⟩
    · go_wp2_with fail
      go_ret
      exact ⟨_, rfl, by rw [any_upto HL.o (fun j x hj hx => HN.o j x (by omega) hx)]; rfl, HE.o⟩
theorem fB_has (b n cap : Nat) (L : List Pt) (h0 b0 m0 c0 n0 d0 : Nat) (A0 : Option Addr) (w : World) (h : PtsIn w b L) (hl : L.length = n) (hn9 : n ≤ 100000) (hc0 : w.cell? ⟨h0, 0, none⟩ = some (.slice (some ⟨b0, 0, none⟩) m0 c0)) (hm0 : 0 < m0) (hd0 : w.cell? ⟨b0, 0, none⟩ = some (.slice A0 n0 d0)) (hm8 : m0 ≤ 100000) :
    Calls Tryz.prog 26 #[.slice (some ⟨b, 0, none⟩) n cap, .func (.func 52) #[] #[.pointer (some ⟨h0, 0, none⟩)]] w (HasP (L.any (odd1 n0)) w) := by
  have HI := hd (fB_index b n cap L h0 b0 m0 c0 n0 d0 A0 w h hl hn9 hc0 hm0 hd0 hm8)
  clear h hl
  go_enter Tryz.func26, Tryz.ntmps26
  go_wp2_with fail
  refine HI.o.mono ?_
  rintro e w' ⟨r, rfl, hr, hE⟩
  have HR := hd hr
  have HE := hd hE
  clear hr hE
  go_wp2_with fail
  go_ret
  exact ⟨ret_bool (by rw [← HR.o]), HE.o⟩

set_option maxRecDepth 100000 in
theorem gA_any (A : Option Addr) (n c : Nat) (xs : List Int) (h0 n0 d0 : Nat) (A0 : Option Addr) (s0 : List Int) (w : World) (hR : RdI w A xs) (hx : xs.length = n) (hn : n ≤ 100000) (hc0 : w.cell? ⟨h0, 0, none⟩ = some (.slice A0 n0 d0)) (hd0 : RdI w A0 s0) (hm0 : s0.length = n0) (hm8 : n0 ≤ 100000) :
    Calls Tryz.prog 27 #[.slice A n c, .pointer (some ⟨h0, 0, none⟩)] w (HasP (unl1 s0 ⟨A, c, xs⟩) w) := by
  have hlt0 := World.block_lt_of_cell? w _ hc0
  simp only at hlt0
  have HQ := hd (equal_int A A0 c d0 xs s0 w hR hd0 (by omega) (by omega))
  rw [hx, hm0] at HQ
  clear hR hd0 hx hm0
  go_enter Tryz.func27, Tryz.ntmps27
  go_wp2_with fail
  refine HQ.o.mono ?_
  rintro e w' ⟨rfl, hE⟩
  have HE := hd hE
  clear hE
  go_wp2_with fail
  go_ret
  exact ⟨ret_bool rfl, HE.o⟩
set_option maxRecDepth 100000 in
theorem gA_index (b n cap : Nat) (L : List Pt) (h0 n0 d0 : Nat) (A0 : Option Addr) (s0 : List Int) (w : World) (h : PtsIn w b L) (hl : L.length = n) (hn9 : n ≤ 100000) (hc0 : w.cell? ⟨h0, 0, none⟩ = some (.slice A0 n0 d0)) (hd0 : RdI w A0 s0) (hm0 : s0.length = n0) (hm8 : n0 ≤ 100000) :
    Calls Tryz.prog 55 #[.slice (some ⟨b, 0, none⟩) n cap, .func (.func 27) #[] #[.pointer (some ⟨h0, 0, none⟩)]] w (IdxP (L.any (unl1 s0)) w) := by
  have HP := hd h
  have HL := hd hl
  have HC := hd hc0
  have HD := hd hd0
  have HZ := hd hm0
  clear hc0 hd0 hm0
  clear h hl
  go_enter Tryz.func55, Tryz.ntmps55
  go_wp2_with fail
  go_loopw [8] (fun i wr => ∃ k : Nat, i = .int .i64 k ∧ k ≤ n ∧ Hd (Ext [] w wr) ∧ Hd (∀ (j : Nat) (x : Pt), j < k → L[j]? = some x → unl1 s0 x = false)) (fun i _ => (n - intOf i).toNat)
  case atStart => exact ⟨0, rfl, Nat.zero_le _, hd (Ext.refl _ _), hd fun j x hj => absurd hj (by omega)⟩
  case round =>
    obtain ⟨k, rfl, hk, HE, HN⟩ := hrel
    rename World => wq
    by_cases hlt : k < n
    · obtain ⟨A, c, m, xs, hx, hm, hc, hR, hm9⟩ := (HP.o.ext HE.o).at (i := k) (by have := HL.o; omega)
      have HX := hd hx
      have HM := hd hm
      have HR := hd hR
      clear hx hm hR
      go_wp2_with fail
      refine (gA_any A m c xs h0 n0 d0 A0 s0 wq HR.o HM.o hm9 (HE.o.held HC.o (by simp)) (HD.o.ext HE.o (by simp)) HZ.o hm8).mono ?_
      rintro e w' ⟨rfl, hE⟩
      have HE2 := hd (HE.o.trans hE)
      clear hE
      cases hp : unl1 s0 ⟨A, c, xs⟩
      · have HQ := hd hp
        clear hp
        go_wp2_with fail
        go_roundw
        case rel =>
          refine ⟨k + 1, by go_num, by omega, HE2, hd fun j x hj hx => ?_⟩
          rcases Nat.lt_or_ge j k with h1 | h1
          · exact HN.o j x h1 hx
          · have : j = k := by omega
            subst this
            have := HX.o.symm.trans hx
            cases this
            exact HQ.o
        case measure => simp [intOf]; omega
      · have HQ := hd hp
        clear hp
        go_wp2_with fail
        go_ret
        exact ⟨_, rfl, by rw [any_at HX.o HQ.o]; simp, HE2.o⟩
    · go_wp2_with fail
      go_ret
      exact ⟨_, rfl, by rw [any_upto HL.o (fun j x hj hx => HN.o j x (by omega) hx)]; rfl, HE.o⟩
theorem gA_has (b n cap : Nat) (L : List Pt) (h0 n0 d0 : Nat) (A0 : Option Addr) (s0 : List Int) (w : World) (h : PtsIn w b L) (hl : L.length = n) (hn9 : n ≤ 100000) (hc0 : w.cell? ⟨h0, 0, none⟩ = some (.slice A0 n0 d0)) (hd0 : RdI w A0 s0) (hm0 : s0.length = n0) (hm8 : n0 ≤ 100000) :
    Calls Tryz.prog 26 #[.slice (some ⟨b, 0, none⟩) n cap, .func (.func 27) #[] #[.pointer (some ⟨h0, 0, none⟩)]] w (HasP (L.any (unl1 s0)) w) := by
  have HI := hd (gA_index b n cap L h0 n0 d0 A0 s0 w h hl hn9 hc0 hd0 hm0 hm8)
  clear h hl
  go_enter Tryz.func26, Tryz.ntmps26
  go_wp2_with fail
  refine HI.o.mono ?_
  rintro e w' ⟨r, rfl, hr, hE⟩
  have HR := hd hr
  have HE := hd hE
  clear hr hE
  go_wp2_with fail
  go_ret
  exact ⟨ret_bool (by rw [← HR.o]), HE.o⟩
end Go.Proofs.YtgbjlccgnfcnaaaGreat
