/- The search that stops early: the walk. Condition: few small sizes, right pairs. -/
import Derived.Test.YtedabpldigcffaaPakE
namespace Go.Proofs.Ytedabpldigcffaa
open Go.RowKit
set_option linter.unusedSimpArgs false
set_option linter.unusedVariables false

def nowC (p : List Nat) : List Value := (nats p).map (Value.int .i64)
theorem nowC_snoc (p : List Nat) (j : Nat) : nowC (p ++ [j]) = nowC p ++ [.int .i64 (j : Int)] := by simp [nowC, nats]
theorem own_rd {w : World} {B n : Nat} {v : Value} {xs : List Int} (h : w.ownsRow B 3 1 v n (xs.map (.int .i64))) (hx : xs.length = n) : ∃ A cap, v = .slice A n cap ∧ RdI w A xs := by
  obtain ⟨hl, hh⟩ := h
  rcases hh with ⟨rfl, h0⟩ | ⟨g, cap, cur, rfl, hb, hg, hnc, hm, hc, ht⟩
  · exact ⟨none, 0, by rw [h0], .inl (List.eq_nil_of_length_eq_zero (by omega))⟩
  · refine ⟨_, cap, rfl, .inr ⟨g, 0, rfl, fun k x hxk => ?_⟩⟩
    have hB : Blk w g 3 cur := hg
    rw [Nat.zero_add, hB.cell]
    have h1 : (xs.map (Value.int .i64))[k]? = some (.int .i64 x) := by rw [List.getElem?_map, hxk]; rfl
    have hlt : k < n * 1 := by rw [← hl]; exact (List.getElem?_eq_some_iff.1 h1).1
    rw [← ht, List.getElem?_take, if_pos hlt] at h1
    simpa using h1
/-- A shorter slice of the same block. -/
theorem own_cut {w : World} {B n m cap g : Nat} {xs ys : List Value} (h : w.ownsRow B 3 1 (.slice (some ⟨g, 0, none⟩) n cap) n (xs ++ ys)) (hx : xs.length = m) (hm : m ≤ n) : w.ownsRow B 3 1 (.slice (some ⟨g, 0, none⟩) m cap) m xs := by
  obtain ⟨hl, hh⟩ := h
  rcases hh with ⟨h0, _⟩ | ⟨g', cap', cur, h0, hb, hg, hnc, hm', hc, ht⟩
  · cases h0
  · cases h0
    refine ⟨by omega, .inr ⟨_, _, cur, rfl, hb, hg, by omega, hm', hc, ?_⟩⟩
    have := congrArg (List.take (m * 1)) ht
    rw [List.take_take, Nat.min_eq_left (by omega), List.take_left' (by omega)] at this
    exact this

/-- The best so far can be read. -/
def BestP (w : World) (B n : Nat) (nowv bestv : Value) (s : List Nat × Int) : Prop :=
  s.2 < 0 ∨ ∃ A cap, bestv = .slice A n cap ∧ (n = 0 ∨ ∃ g, A = some ⟨g, 0, none⟩ ∧ RdI w A (nats s.1) ∧ B ≤ g ∧ g < w.heap.size ∧ nowv.ownBlock ≠ some g)
theorem BestP.ext {S : List Nat} {w w' : World} {B n : Nat} {nowv nowv' bestv : Value} {s : List Nat × Int} (h : BestP w B n nowv bestv s) (hE : Ext S w w') (hS : ∀ x, x ∈ S → x < B ∨ nowv.ownBlock = some x) (hn : ∀ q, nowv'.ownBlock = some q → nowv.ownBlock = some q ∨ w.heap.size ≤ q) : BestP w' B n nowv' bestv s := by
  rcases h with h | ⟨A, cap, hb, h⟩
  · exact .inl h
  · refine .inr ⟨A, cap, hb, ?_⟩
    rcases h with h | ⟨g, rfl, hr, hBg, hg, hng⟩
    · exact .inl h
    · refine .inr ⟨g, rfl, hr.ext hE (fun a ha hm => ?_), hBg, Nat.lt_of_lt_of_le hg hE.size, fun he => ?_⟩
      · cases ha
        rcases hS g hm with h1 | h1
        · omega
        · exact hng h1
      · rcases hn g he with h1 | h1
        · exact hng h1
        · omega
/-- Where the search stands. -/
structure NxS (w : World) (G U B n cap banks : Nat) (bank : Int) (zs : List Int) (prs : List Pr) (A : Option Addr) (p : List Nat) (s : List Nat × Int) (nowv bestv : Value) : Prop where
  pk : PkB w G (.slice A n cap) prs nowv bestv (.slice (some ⟨U, 0, none⟩) banks banks) bank s.2
  us : Blk w U 3 (Nums (usL zs banks p))
  ow : w.ownsRow B 3 1 nowv p.length (nowC p)
  be : BestP w B n nowv bestv s
  rz : RdI w A zs
section
variable {w w' : World} {G U B n cap banks : Nat} {bank : Int} {zs : List Int} {prs : List Pr} {A : Option Addr} {p : List Nat} {s : List Nat × Int} {nowv bestv : Value}
theorem NxS.ext0 (h : NxS w G U B n cap banks bank zs prs A p s nowv bestv) (hE : Ext [] w w') : NxS w' G U B n cap banks bank zs prs A p s nowv bestv :=
  ⟨h.pk.ext hE (by simp), h.us.ext hE (by simp), own_ext h.ow hE (by simp), h.be.ext hE (by simp) (fun q hq => .inl hq), h.rz.ext hE (by simp)⟩
end
/-- What lies where. -/
structure NxC (G U B : Nat) (A : Option Addr) : Prop where
  g : G < B
  u : U < B
  gu : G ≠ U
  a : ∀ x, A = some x → x.block < B ∧ x.block ≠ G ∧ x.block ≠ U
theorem NxS.leaf {w : World} {G U B n cap banks : Nat} {bank : Int} {zs : List Int} {prs : List Pr} {A : Option Addr} {p : List Nat} {s : List Nat × Int} {nowv bestv : Value} (h : NxS w G U B n cap banks bank zs prs A p s nowv bestv) (hc : NxC G U B A) {A3 : Option Addr} {cap3 k : Nat} (c : Int)
    (hcl : n = 0 ∨ ∃ g, A3 = some ⟨g, 0, none⟩ ∧ InB w g (nats p) ∧ n ≤ cap3 ∧ k ≤ g) (hBk : B ≤ k) (hnow : ∀ q, nowv.ownBlock = some q → q < k) :
    NxS ((w.setCell ⟨G, 38, none⟩ (.slice A3 n cap3)).setCell ⟨G, 41, none⟩ (.int .i64 c)) G U B n cap banks bank zs prs A p (p, c) nowv (.slice A3 n cap3) := by
  have hE : Ext [G] w ((w.setCell ⟨G, 38, none⟩ (.slice A3 n cap3)).setCell ⟨G, 41, none⟩ (.int .i64 c)) := ((Ext.refl [G] w).setCell (.inl (by simp)) _).setCell (.inl (by simp)) _
  have hgB := hc.g
  refine ⟨(h.pk.set38 _).set41 c, h.us.ext hE (by simpa using fun e => hc.gu e.symm), own_ext h.ow hE (fun q hq hm => by have := own_base h.ow q hq; rw [List.mem_singleton.1 hm] at this; omega), .inr ⟨A3, cap3, rfl, ?_⟩, h.rz.ext hE (fun a ha hm => (hc.a a ha).2.1 (List.mem_singleton.1 hm))⟩
  rcases hcl with h0 | ⟨g, rfl, hI, hn, hg⟩
  · exact .inl h0
  · exact .inr ⟨g, rfl, (hI.ext hE (by simp; omega)).rda, by omega, Nat.lt_of_lt_of_le hI.lt hE.size, fun he => by have := hnow g he; omega⟩
/-- What the search does. -/
def NxP (G U B n cap banks : Nat) (bank : Int) (zs : List Int) (prs : List Pr) (A : Option Addr) (p : List Nat) (s : List Nat × Int) (nowv : Value) (w : World) (e : Ending) (w' : World) : Prop :=
  e = .returned (.tuple #[]) ∧ Ext (G :: U :: nowv.ownBlock.toList) w w' ∧ ∃ nowv' bestv', NxS w' G U B n cap banks bank zs prs A p s nowv' bestv' ∧ ∀ q, nowv'.ownBlock = some q → nowv.ownBlock = some q ∨ w.heap.size ≤ q

set_option maxHeartbeats 4000000 in
set_option maxRecDepth 100000 in
theorem next_zero (G U B n cap banks : Nat) (bank : Int) (zs : List Int) (prs : List Pr) (A : Option Addr) (hok : PkOk n banks bank zs prs) (hc : NxC G U B A) (p : List Nat) (s : List Nat × Int) (nowv bestv : Value) (w : World) (hp : p.length = n) (hBw : B ≤ w.heap.size) (h : NxS w G U B n cap banks bank zs prs A p s nowv bestv) (hs : -1 ≤ s.2 ∧ s.2 ≤ 1000) :
    Calls Try.prog 42 #[.pointer (some ⟨G, 0, none⟩)] w (NxP G U B n cap banks bank zs prs A p (nextS zs prs banks bank 0 p s) nowv w) := by
  obtain ⟨An, cn, hnv, hrd⟩ := own_rd h.ow (by rw [nats_length])
  have HOW := hd (own_base h.ow)
  have hpos := (own_form h.ow)
  rw [hp] at hnv
  subst hnv
  have HP := hd hp
  have HNB : Hd (∀ q, (Value.slice An n cn).ownBlock = some q → q < w.heap.size) := hd (fun q hq => by
    by_cases h0 : 0 < p.length
    · obtain ⟨A', cap', he, _, hx⟩ := hpos
      obtain ⟨g, hg, _, hgl⟩ := hx h0
      cases he
      subst hg
      cases hq
      exact hgl
    · rcases h.ow.2 with ⟨he, _⟩ | ⟨g', cap', cur, he, hb, hg, _⟩
      · cases he; cases hq
      · cases he; cases hq
        exact (Array.getElem?_eq_some_iff.1 hg).1)
  have H0 := hd h
  have HC := hd hc
  have HRD := hd hrd
  have hcb := conf_bd prs p
  have hpl := hok.pl
  have hn6 := hok.n6
  have HCF := hd (conflicts_any G n cn n An (.slice A n cap) bestv (.slice (some ⟨U, 0, none⟩) banks banks) bank s.2 prs p w h.pk hrd hp hn6 hok.pr hpl)
  have HNS : Hd (nextS zs prs banks bank 0 p s = if 0 ≤ s.2 ∧ s.2 ≤ conf prs p then s else (p, conf prs p)) := hd rfl
  have hgB := hc.g
  clear hok h hc hrd hpos hp
  go_enter Try.func42, Try.ntmps42
  go_wp2_with fail
  refine HCF.out.mono ?_
  rintro e w2 ⟨rfl, hE2⟩
  have HE2 := hd hE2
  have h2 := H0.out.ext0 hE2
  have H2 := hd h2
  have q37 := h2.pk.c37
  have q41 := h2.pk.c41
  have q0 := h2.pk.c0
  have lG := h2.pk.lt
  have f38 := h2.pk.frozen 38
  have f41 := h2.pk.frozen 41
  have q38 := h2.pk.c38
  obtain ⟨s1, s2⟩ := s
  simp only at *
  generalize conf prs p = c at *
  clear hE2 h2
  by_cases c1 : 0 ≤ s2
  · have e1 : decide (0 ≤ s2) = true := by simpa using c1
    by_cases c2 : s2 ≤ c
    · have e2 : decide (s2 ≤ c) = true := by simpa using c2
      have HN : Hd (nextS zs prs banks bank 0 p (s1, s2) = (s1, s2)) := hd (by rw [HNS.out, if_pos ⟨c1, c2⟩])
      go_wp2_with fail
      go_end0
      exact ⟨rfl, HE2.out.nil, _, _, by rw [HN.out]; exact H2.out, fun q hq => .inl hq⟩
    · have e2 : decide (s2 ≤ c) = false := by simpa using c2
      have HN : Hd (nextS zs prs banks bank 0 p (s1, s2) = (p, c)) := hd (by rw [HNS.out, if_neg (fun h => c2 h.2)])
      go_wp2_with fail
      refine (clone_len An cn n (nats p) w2 (HRD.out.ext HE2.out (by simp)) (by rw [nats_length, HP.out]) (by omega)).mono ?_
      rintro e w3 ⟨A3, cap3, rfl, hE3, hcl⟩
      have HE3 := hd hE3
      have HCL := hd hcl
      have H3 := hd (H2.out.ext0 hE3)
      clear q37 q41 q0 lG f38 f41 q38 hE3 hcl
      have lG := H3.out.pk.lt
      have f38 := H3.out.pk.frozen 38
      have f41 := H3.out.pk.frozen 41
      have q38 := H3.out.pk.c38
      have q41 := H3.out.pk.c41
      go_wp2_with fail
      go_end0
      exact ⟨rfl, ((HE2.out.trans HE3.out).nil.setCell (.inl (by simp)) _).setCell (.inl (by simp)) _, _, _, by rw [HN.out]; exact H3.out.leaf HC.out c HCL.out (by have := HE2.out.size; omega) (fun q hq => Nat.lt_of_lt_of_le (HNB.out q hq) HE2.out.size), fun q hq => .inl hq⟩
  · have e1 : decide (0 ≤ s2) = false := by simpa using c1
    have HN : Hd (nextS zs prs banks bank 0 p (s1, s2) = (p, c)) := hd (by rw [HNS.out, if_neg (fun h => c1 h.1)])
    go_wp2_with fail
    refine (clone_len An cn n (nats p) w2 (HRD.out.ext HE2.out (by simp)) (by rw [nats_length, HP.out]) (by omega)).mono ?_
    rintro e w3 ⟨A3, cap3, rfl, hE3, hcl⟩
    have HE3 := hd hE3
    have HCL := hd hcl
    have H3 := hd (H2.out.ext0 hE3)
    clear q37 q41 q0 lG f38 f41 q38 hE3 hcl
    have lG := H3.out.pk.lt
    have f38 := H3.out.pk.frozen 38
    have f41 := H3.out.pk.frozen 41
    have q38 := H3.out.pk.c38
    have q41 := H3.out.pk.c41
    go_wp2_with fail
    go_end0
    exact ⟨rfl, ((HE2.out.trans HE3.out).nil.setCell (.inl (by simp)) _).setCell (.inl (by simp)) _, _, _, by rw [HN.out]; exact H3.out.leaf HC.out c HCL.out (by have := HE2.out.size; omega) (fun q hq => Nat.lt_of_lt_of_le (HNB.out q hq) HE2.out.size), fun q hq => .inl hq⟩
end Go.Proofs.Ytedabpldigcffaa
