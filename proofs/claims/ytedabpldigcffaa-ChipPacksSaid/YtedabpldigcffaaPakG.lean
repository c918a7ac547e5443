/- The search that stops early: the walk of the recursion. Condition: few small sizes, right pairs. -/
import Derived.Test.YtedabpldigcffaaPakF
namespace Go.Proofs.Ytedabpldigcffaa
open Go.RowKit
set_option linter.unusedSimpArgs false
set_option linter.unusedVariables false

theorem nextS_bd {zs : List Int} {prs : List Pr} {banks : Nat} {bank : Int} : ∀ (d : Nat) (p : List Nat) (s : List Nat × Int), -1 ≤ s.2 ∧ s.2 ≤ prs.length → -1 ≤ (nextS zs prs banks bank d p s).2 ∧ (nextS zs prs banks bank d p s).2 ≤ prs.length
  | 0, p, s, h => by
    unfold nextS
    have := conf_bd prs p
    split
    · exact h
    · simp only; omega
  | d + 1, p, s, h => by
    rw [nextS_succ]
    split
    · exact h
    · have : ∀ j, -1 ≤ (nextL zs prs banks bank d p s j).2 ∧ (nextL zs prs banks bank d p s j).2 ≤ prs.length := by
        intro j
        induction j with
        | zero => exact h
        | succ j ih =>
          rw [nextL_succ]
          split
          · exact nextS_bd d (p ++ [j]) _ ih
          · exact ih
      exact this _
/-- Where the loop over the banks stands. -/
def NxL (G U B n cap banks : Nat) (bank : Int) (zs : List Int) (prs : List Pr) (A : Option Addr) (p : List Nat) (s : List Nat × Int) (nowv : Value) (w : World) (wr : World) : Prop :=
  Ext (G :: U :: nowv.ownBlock.toList) w wr ∧ ∃ nowj bestj, NxS wr G U B n cap banks bank zs prs A p s nowj bestj ∧ ∀ q, nowj.ownBlock = some q → nowv.ownBlock = some q ∨ w.heap.size ≤ q

set_option maxHeartbeats 8000000 in
set_option maxRecDepth 100000 in
theorem next_all (G U B n cap banks : Nat) (bank : Int) (zs : List Int) (prs : List Pr) (A : Option Addr) (hok : PkOk n banks bank zs prs) (hc : NxC G U B A) : ∀ (d : Nat) (p : List Nat) (s : List Nat × Int) (nowv bestv : Value) (w : World), d + p.length = n → FitP zs banks bank p → B ≤ w.heap.size → NxS w G U B n cap banks bank zs prs A p s nowv bestv → -1 ≤ s.2 ∧ s.2 ≤ prs.length →
    Calls Try.prog 42 #[.pointer (some ⟨G, 0, none⟩)] w (NxP G U B n cap banks bank zs prs A p (nextS zs prs banks bank d p s) nowv w) := by
  intro d
  induction d with
  | zero =>
    intro p s nowv bestv w hp _ hBw h hs
    exact next_zero G U B n cap banks bank zs prs A hok hc p s nowv bestv w (by omega) hBw h (by have := hok.pl; omega)
  | succ d ih =>
    intro p s nowv bestv w hp hf hBw h hs
    obtain ⟨i0, hi0, hz0, hz1, hz2⟩ := info_parts (show ((Try.prog).info? 3).map (fun i => (i.zero, i.size, i.bytes)) = some (some (.int .i64 0), 1, 8) by kernel_rfl)
    have HIH := hd ih
    have HC := hd hc
    have HOK := hd hok
    have HF := hd hf
    have HP := hd hp
    obtain ⟨i, hi⟩ : ∃ i, i = p.length := ⟨_, rfl⟩
    have HI := hd hi
    have hin : i < n := by omega
    have hzi := hok.gi hin
    have hzn : zs.length = n := hok.len
    have hn6 := hok.n6
    have hb8 := hok.b8
    have hk2 := hok.k2
    have hk1 := hok.k1
    have hpl := hok.pl
    have HPZ : Hd (p.length < zs.length) := hd (by omega)
    have hgB := hc.g
    have huB := hc.u
    have hgu := hc.gu
    have HAX := hd hc.a
    have HNC : Hd (i = (nowC p).length) := hd (by simp [nowC, nats_length, hi])
    have HLB : Hd (∀ j, -1 ≤ (nextL zs prs banks bank d p s j).2 ∧ (nextL zs prs banks bank d p s j).2 ≤ prs.length) := hd (by
      intro j
      induction j with
      | zero => exact hs
      | succ j ih2 =>
        rw [nextL_succ]
        split
        · exact nextS_bd d (p ++ [j]) _ ih2
        · exact ih2)
    obtain ⟨An, cn, hnv, hrd⟩ := own_rd h.ow (by rw [nats_length])
    rw [← hi] at hnv
    subst hnv
    have H0 := hd h
    have hcb := conf_bd prs p
    have HCF := hd (conflicts_any G n cn i An (.slice A n cap) bestv (.slice (some ⟨U, 0, none⟩) banks banks) bank s.2 prs p w h.pk hrd hi.symm (by omega) hok.pr hpl)
    have HNS : Hd (nextS zs prs banks bank (d + 1) p s = if 0 ≤ s.2 ∧ s.2 ≤ conf prs p then s else nextL zs prs banks bank d p s banks) := hd (nextS_succ zs prs banks bank d p s)
    have hne : ((i : Int) == (n : Int)) = false := by simp; omega
    have HSB := hd hs
    clear hok h hc hrd hp ih hf hs hi
    go_enter Try.func42, Try.ntmps42
    go_wp2_with fail
    refine HCF.out.mono ?_
    rintro e w2 ⟨rfl, hE2⟩
    have HE2 := hd hE2
    have h2 := H0.out.ext0 hE2
    have H2 := hd h2
    have q37 := h2.pk.c37
    have q41 := h2.pk.c41
    have q0 := h2.pk.c0
    have q39 := h2.pk.c39
    have lG := h2.pk.lt
    clear hE2 h2 HCF H0
    generalize conf prs p = c at *
    have HL0 : Hd (NxL G U B n cap banks bank zs prs A p (nextL zs prs banks bank d p s 0) (.slice An i cn) w w2) := hd ⟨HE2.out.nil, _, _, H2.out, fun q hq => .inl hq⟩
    go_upto_block 0 with fail
    go_cut [] (fun wx => wx = w2 ∧ Hd (¬ (0 ≤ s.2 ∧ s.2 ≤ c)))
    case first =>
      obtain ⟨s1, s2⟩ := s
      simp only at *
      by_cases c1 : 0 ≤ s2
      · have e1 : decide (0 ≤ s2) = true := by simpa using c1
        by_cases c2 : s2 ≤ c
        · have e2 : decide (s2 ≤ c) = true := by simpa using c2
          have HN : Hd (nextS zs prs banks bank (d + 1) p (s1, s2) = (s1, s2)) := hd (by rw [HNS.out, if_pos ⟨c1, c2⟩])
          go_wp2_with fail
          go_end0
          exact ⟨rfl, HE2.out.nil, _, _, by rw [HN.out]; exact H2.out, fun q hq => .inl hq⟩
        · have e2 : decide (s2 ≤ c) = false := by simpa using c2
          go_wp2_with fail
          go_meet
          exact ⟨rfl, hd (by omega)⟩
      · have e1 : decide (0 ≤ s2) = false := by simpa using c1
        go_wp2_with fail
        go_meet
        exact ⟨rfl, hd (by omega)⟩
    case rest =>
      obtain ⟨rfl, HNO⟩ := hcut
      have HNS2 : Hd (nextS zs prs banks bank (d + 1) p s = nextL zs prs banks bank d p s banks) := hd (by rw [HNS.out, if_neg HNO.out])
      clear HNS HNO q41 q0
      go_wp2_with fail
      go_loopw [51] (fun v wr => ∃ j : Nat, v = .int .i64 j ∧ j ≤ banks ∧ Hd (NxL G U B n cap banks bank zs prs A p (nextL zs prs banks bank d p s j) (.slice An i cn) w wr)) (fun v _ => (banks - intOf v).toNat)
      case atStart => exact ⟨0, rfl, Nat.zero_le _, HL0⟩
      case round =>
        obtain ⟨j, rfl, hj, HL⟩ := hrel
        rename World => w1
        clear q37 q39 lG
        by_cases hlt : j < banks
        · obtain ⟨hE, nowj, bestj, hS, hnw⟩ := HL.out
          have HE := hd hE
          have HS := hd hS
          have HNW := hd hnw
          have hww : w.heap.size ≤ w1.heap.size := hE.size
          have HB0 := hd (HLB.out j)
          have HLS := hd (nextL_succ zs prs banks bank d p s j)
          have hu0 := usedOf_pos j p zs HOK.out.z
          have hu1 := HF.out.2 j
          have HDN := hd (usL_down (zs := zs) (banks := banks) (p := p) (j := j) HPZ.out)
          have HUP := hd (usL_up (zs := zs) (banks := banks) (p := p) (j := j) HPZ.out)
          have HUS : Hd (usedOf (p ++ [j]) zs j = usedOf p zs j + gi zs i) := hd (by rw [usedOf_snoc _ _ _ _ HPZ.out, if_pos rfl, ← HI.out])
          have HFN : Hd (usedOf p zs j + gi zs i ≤ bank → FitP zs banks bank (p ++ [j])) := hd fun h => HF.out.snoc HPZ.out hlt (by rw [← HI.out]; exact h)
          rw [← HI.out] at HLS HDN HUP
          rw [HUS.out] at HDN
          have HGU : Hd ((Nums (usL zs banks p))[j]? = some (.int .i64 (usedOf p zs j))) := hd (nums_get (usL_get zs p hlt))
          have HZ : Hd (∀ W, RdI W A zs → ∃ b o, A = some ⟨b, o, none⟩ ∧ b < W.heap.size ∧ W.cell? ⟨b, o + i, none⟩ = some (.int .i64 (gi zs i))) := hd fun W h => h.at (by omega)
          obtain ⟨bA, oA, hA, lA, zA⟩ := HZ.out _ hS.rz
          have q39 := hS.pk.c39
          have q0 := hS.pk.c0
          have q40 := hS.pk.c40
          have lG := hS.pk.lt
          have lU := hS.us.lt
          have gU : w1.cell? ⟨U, j, none⟩ = some (.int .i64 (usedOf p zs j)) := by rw [hS.us.cell]; exact HGU.out
          clear hE hS hnw HL HL0 HE2 H2
          generalize nextL zs prs banks bank d p s j = sj at *
          generalize usedOf p zs j = u at *
          generalize gi zs i = z at *
          have hw0 : IntKind.i64.wrap (u + z) = u + z := by rw [IntKind.wrap_i64]; omega
          have hw1 : IntKind.i64.wrap (u + z - z) = u := by rw [IntKind.wrap_i64]; omega
          subst hA
          have hbAB := (HAX.out _ rfl).1
          have hbAG := (HAX.out _ rfl).2.1
          have hbAU := (HAX.out _ rfl).2.2
          simp only at hbAB hbAG hbAU
          by_cases hfit : bank < u + z
          · have e1 : decide (bank < u + z) = true := by simpa using hfit
            have HLN : Hd (nextL zs prs banks bank d p s (j + 1) = sj) := hd (by rw [HLS.out, if_neg (by omega)])
            go_wp2_with fail
            go_quiet (fail)
            go_wp2_with fail
            go_roundw
            case rel => exact ⟨j + 1, by go_num, by omega, hd (by rw [HLN.out]; exact ⟨HE.out.drewN _, nowj, bestj, HS.out.ext0 ((Ext.refl [] _).drewN _), HNW.out⟩)⟩
            case measure => simp [intOf]; omega
          · have e1 : decide (bank < u + z) = false := by simpa using hfit
            have HLN : Hd (nextL zs prs banks bank d p s (j + 1) = nextS zs prs banks bank d (p ++ [j]) sj) := hd (by rw [HLS.out, if_pos (by omega)])
            have HFT := hd (HFN.out (by omega))
            go_wp2_with fail
            go_quiet (fail)
            go_wp2_with fail
            have HD := hd ((Ext.refl [] w1).drewN nq)
            have HE2 := hd (HE.out.drewN nq)
            generalize w1.drewN nq = w2 at *
            have h2 := HS.out.ext0 HD.out
            have HS2 := hd h2
            clear q39 q0 q40 lG lU gU lA zA
            have q39 := h2.pk.c39
            have q0 := h2.pk.c0
            have lG := h2.pk.lt
            have lU := h2.us.lt
            have fU := h2.us.frozen j
            have gU : w2.cell? ⟨U, j, none⟩ = some (.int .i64 u) := by rw [h2.us.cell]; exact HGU.out
            obtain ⟨bA', oA', hA', lA, zA⟩ := HZ.out _ h2.rz
            cases hA'
            have HB3 : Hd (Blk ((w2.setCell ⟨U, j, none⟩ (.int .i64 (u + z))).drew) U 3 (Nums (usL zs banks (p ++ [j])))) := hd (by
              have := h2.us.set_ j (.int .i64 (u + z))
              rw [nums_set, HUP.out] at this
              exact this)
            have HE23 : Hd (Ext [U] w2 ((w2.setCell ⟨U, j, none⟩ (.int .i64 (u + z))).drew)) := hd (((Ext.refl _ _).setCell (.inl (by simp)) _).drew)
            clear h2
            go_region
            go_upto_region 10 with fail
            generalize (w2.setCell ⟨U, j, none⟩ (.int .i64 (u + z))).drew = w3 at *
            clear q39 q0 lG lU fU gU lA zA
            have HK3 := hd (HS2.out.pk.ext HE23.out (by simpa using hgu))
            have HO3 : Hd (w3.ownsRow B 3 1 nowj i (nowC p)) := hd (by
              have := own_ext HS2.out.ow HE23.out (fun q hq hm => by have := own_base HS2.out.ow q hq; rw [List.mem_singleton.1 hm] at this; omega)
              rw [← HI.out] at this
              exact this)
            have HBE3 := hd (HS2.out.be.ext HE23.out (fun x hx => .inl (by rw [List.mem_singleton.1 hx]; exact huB)) (nowv' := nowj) (fun q hq => .inl hq))
            have HRZ3 := hd (HS2.out.rz.ext HE23.out (fun a ha hm => by cases ha; exact hbAU (List.mem_singleton.1 hm)))
            have q37 := HK3.out.c37
            have lG := HK3.out.lt
            have hB3 : B ≤ w3.heap.size := by have := HE2.out.size; have := HE23.out.size; omega
            have hGw3 : G ∉ nowj.ownBlock.toList := fun hm => by have := own_base HO3.out G (by simpa using hm); omega
            have hUw3 : U ∉ nowj.ownBlock.toList := fun hm => by have := own_base HO3.out U (by simpa using hm); omega
            go_wp2_with (
              refine wpList_append_lies _ rfl _ _ 22 rfl B 3 i0 _ 1 8 Try.underlying22 hi0 hz0 hz1 hz2 rfl (by decide) nowj i (nowC p) rfl (own_ext HO3.out ((Ext.refl [] _).alloc _) (by simp)) ⟨w3.heap.size, 0, none⟩ 1 1 [.int .i64 (j : Int)] rfl rfl ?c1 ?c2 (by decide) ?c3 ?c4 ?c5 _ rfl ?_
              case c1 => exact World.news_of_block (Blk.new _ _ _)
              case c2 => intro u hu; simp at hu; rcases hu with rfl; rfl
              case c3 => unfold maxLen; omega
              case c4 => omega
              case c5 => simp; omega
              intro g2 cap2 w4 ho hg ha hlt2
              have HE34 : Hd (Ext nowj.ownBlock.toList w3 w4) := hd (((Ext.refl _ _).alloc _).grown hg (fun q hq => .inl (by simp [hq])))
              have HGN : Hd (nowj.ownBlock = some g2 ∨ w3.heap.size ≤ g2) := hd (by
                rcases ha with h | h
                · exact .inl h
                · right; rw [h]; simp)
              have HO4 := hd ho
              have HK4 := hd (HK3.out.ext HE34.out hGw3)
              clear ho hg ha hlt2 q37 lG
              have q37 := HK4.out.c37
              have lG := HK4.out.lt
              have f37 := HK4.out.frozen 37)
            have HE45 : Hd (Ext [G] w4 (w4.setCell ⟨G, 37, none⟩ (.slice (some ⟨g2, 0, none⟩) (i + 1) cap2))) := hd ((Ext.refl _ _).setCell (.inl (by simp)) _)
            have HK5 : Hd (PkB (w4.setCell ⟨G, 37, none⟩ (.slice (some ⟨g2, 0, none⟩) (i + 1) cap2)) G (.slice (some ⟨bA, oA, none⟩) n cap) prs (.slice (some ⟨g2, 0, none⟩) (i + 1) cap2) bestj (.slice (some ⟨U, 0, none⟩) banks banks) bank sj.2) := hd (HK4.out.set37 _)
            generalize w4.setCell ⟨G, 37, none⟩ (.slice (some ⟨g2, 0, none⟩) (i + 1) cap2) = w5 at *
            have hlen : (p ++ [j]).length = i + 1 := by rw [List.length_append, List.length_singleton, HI.out]
            have hG2 : B ≤ g2 := own_base HO4.out g2 rfl
            have HBE5 : Hd (BestP w5 B n (.slice (some ⟨g2, 0, none⟩) (i + 1) cap2) bestj sj) := hd (by
              have h4 := HBE3.out.ext (nowv' := .slice (some ⟨g2, 0, none⟩) (i + 1) cap2) HE34.out (fun x hx => .inr (by simpa using hx)) (fun q hq => by
                have : g2 = q := by simpa [Value.ownBlock] using hq
                rw [← this]; exact HGN.out)
              exact h4.ext HE45.out (fun x hx => .inl (by rw [List.mem_singleton.1 hx]; exact hgB)) (fun q hq => .inl hq))
            have HS5 : Hd (NxS w5 G U B n cap banks bank zs prs (some ⟨bA, oA, none⟩) (p ++ [j]) sj (.slice (some ⟨g2, 0, none⟩) (i + 1) cap2) bestj) := hd ⟨HK5.out, (HB3.out.ext HE34.out hUw3).ext HE45.out (by simpa using fun e => hgu e.symm), by
              rw [hlen, nowC_snoc]
              exact own_ext HO4.out HE45.out (fun q hq hm => by have := own_base HO4.out q hq; rw [List.mem_singleton.1 hm] at this; omega), HBE5.out,
              (HRZ3.out.ext HE34.out (fun a ha hm => by
                cases ha
                have := own_base HO3.out bA (by simpa using hm)
                omega)).ext HE45.out (fun a ha hm => by cases ha; exact hbAG (List.mem_singleton.1 hm))⟩
            have hB5 : B ≤ w5.heap.size := by have := HE34.out.size; have := HE45.out.size; omega
            have HCALL := hd (HIH.out (p ++ [j]) sj (.slice (some ⟨g2, 0, none⟩) (i + 1) cap2) bestj w5 (by have := HP.out; have := HI.out; omega) HFT.out hB5 HS5.out HB0.out)
            clear q37 lG f37
            refine HCALL.out.mono ?_
            rintro e w6 ⟨rfl, hE6, now6, best6, hS6, hn6⟩
            obtain ⟨A6, cap6, hv6, hc6, hx6⟩ := own_form hS6.ow
            rw [hlen] at hv6 hc6 hx6
            obtain ⟨g6, rfl, hg6B, hg6l⟩ := hx6 (by omega)
            subst hv6
            have HE6 := hd hE6
            have HS6 := hd hS6
            have HN6 := hd hn6
            have q37 := hS6.pk.c37
            have lG := hS6.pk.lt
            have f37 := hS6.pk.frozen 37
            have hcap6 : (i : Int) ≤ (cap6 : Int) := by omega
            have HE67 : Hd (Ext [G] w6 (w6.setCell ⟨G, 37, none⟩ (.slice (some ⟨g6, 0, none⟩) i cap6))) := hd ((Ext.refl _ _).setCell (.inl (by simp)) _)
            have HK7 : Hd (PkB (w6.setCell ⟨G, 37, none⟩ (.slice (some ⟨g6, 0, none⟩) i cap6)) G (.slice (some ⟨bA, oA, none⟩) n cap) prs (.slice (some ⟨g6, 0, none⟩) i cap6) best6 (.slice (some ⟨U, 0, none⟩) banks banks) bank (nextS zs prs banks bank d (p ++ [j]) sj).2) := hd (hS6.pk.set37 _)
            have HO7 : Hd (w6.ownsRow B 3 1 (.slice (some ⟨g6, 0, none⟩) i cap6) i (nowC p)) := hd (by
              have := hS6.ow
              rw [hlen, nowC_snoc] at this
              exact own_cut this HNC.out.symm (by omega))
            clear hE6 hS6 hn6 HCALL
            go_upto_region 13 with fail
            generalize w6.setCell ⟨G, 37, none⟩ (.slice (some ⟨g6, 0, none⟩) i cap6) = w7 at *
            clear q37 lG f37
            have hB7 := HS6.out.us.ext HE67.out (by simpa using fun e => hgu e.symm)
            have hR7 := HS6.out.rz.ext HE67.out (fun a ha hm => by cases ha; exact hbAG (List.mem_singleton.1 hm))
            have q39 := HK7.out.c39
            have q0 := HK7.out.c0
            have lG := HK7.out.lt
            have lU := hB7.lt
            have fU := hB7.frozen j
            have gU : w7.cell? ⟨U, j, none⟩ = some (.int .i64 (u + z)) := by rw [hB7.cell, ← HUS.out]; exact nums_get (usL_get zs (p ++ [j]) hlt)
            obtain ⟨bA', oA', hA', lA, zA⟩ := HZ.out _ hR7
            cases hA'
            have huz : u + z - z = u := by omega
            have HB8 : Hd (Blk ((w7.setCell ⟨U, j, none⟩ (.int .i64 (u + z - z))).drew) U 3 (Nums (usL zs banks p))) := hd (by
              have := hB7.set_ j (.int .i64 (u + z - z))
              rw [nums_set, HDN.out] at this
              exact this)
            have HE78 : Hd (Ext [U] w7 ((w7.setCell ⟨U, j, none⟩ (.int .i64 (u + z - z))).drew)) := hd (((Ext.refl _ _).setCell (.inl (by simp)) _).drew)
            rw [huz] at HB8 HE78
            have HR7 := hd hR7
            clear hB7 hR7
            have hUB : ∀ q, (Value.slice (some ⟨g6, 0, none⟩) i cap6).ownBlock = some q → q ∉ [U] := fun q hq hm => by
              have : g6 = q := by simpa [Value.ownBlock] using hq
              rw [List.mem_singleton.1 hm] at this; omega
            have hGB : ∀ q, (Value.slice (some ⟨g6, 0, none⟩) i cap6).ownBlock = some q → q ∉ [G] := fun q hq hm => by
              have : g6 = q := by simpa [Value.ownBlock] using hq
              rw [List.mem_singleton.1 hm] at this; omega
            have HN : Hd (NxS ((w7.setCell ⟨U, j, none⟩ (.int .i64 u)).drew) G U B n cap banks bank zs prs (some ⟨bA, oA, none⟩) p (nextL zs prs banks bank d p s (j + 1)) (.slice (some ⟨g6, 0, none⟩) i cap6) best6) := hd (by
              rw [HLN.out]
              refine ⟨HK7.out.ext HE78.out (by simpa using hgu), HB8.out, ?_, ?_, HR7.out.ext HE78.out (fun a ha hm => by cases ha; exact hbAU (List.mem_singleton.1 hm))⟩
              · rw [← HI.out]
                exact own_ext (own_ext HO7.out HE67.out hGB) HE78.out hUB
              · exact (HS6.out.be.ext HE67.out (fun x hx => .inl (by rw [List.mem_singleton.1 hx]; exact hgB)) (nowv' := .slice (some ⟨g6, 0, none⟩) i cap6) (fun q hq => .inl hq)).ext HE78.out (fun x hx => .inl (by rw [List.mem_singleton.1 hx]; exact huB)) (fun q hq => .inl hq))
            have hw23 : w.heap.size ≤ w3.heap.size := Nat.le_trans HE2.out.size HE23.out.size
            have hjS : ∀ q, nowj.ownBlock = some q → q ∈ G :: U :: (Value.slice An i cn).ownBlock.toList ∨ w.heap.size ≤ q := fun q hq => by
              rcases HNW.out q hq with h | h
              · left; simp [h]
              · exact .inr h
            have hg2S : g2 ∈ G :: U :: (Value.slice An i cn).ownBlock.toList ∨ w.heap.size ≤ g2 := by
              rcases HGN.out with h | h
              · exact hjS g2 h
              · right; omega
            have HE5 : Hd (Ext (G :: U :: (Value.slice An i cn).ownBlock.toList) w w5) := hd (((HE2.out.step HE23.out (fun x hx => .inl (by rw [List.mem_singleton.1 hx]; simp))).step HE34.out (fun x hx => hjS x (by simpa using hx))).step HE45.out (fun x hx => .inl (by rw [List.mem_singleton.1 hx]; simp)))
            have HE8 : Hd (Ext (G :: U :: (Value.slice An i cn).ownBlock.toList) w ((w7.setCell ⟨U, j, none⟩ (.int .i64 u)).drew)) := hd (((HE5.out.step HE6.out (fun x hx => by
              simp [Value.ownBlock] at hx
              rcases hx with rfl | rfl | rfl
              · left; simp
              · left; simp
              · exact hg2S)).step HE67.out (fun x hx => .inl (by rw [List.mem_singleton.1 hx]; simp))).step HE78.out (fun x hx => .inl (by rw [List.mem_singleton.1 hx]; simp)))
            have HNW8 : Hd (∀ q, (Value.slice (some ⟨g6, 0, none⟩) i cap6).ownBlock = some q → (Value.slice An i cn).ownBlock = some q ∨ w.heap.size ≤ q) := hd (fun q hq => by
              have h6 := HN6.out q hq
              rcases h6 with h | h
              · have e2 : g2 = q := by simpa [Value.ownBlock] using h
                subst e2
                rcases HGN.out with h1 | h1
                · exact HNW.out _ h1
                · right; omega
              · right
                have := HE5.out.size
                omega)
            go_wp2_with fail
            go_region
            go_wp2_with fail
            go_roundw
            case rel => exact ⟨j + 1, by go_num, by omega, hd ⟨HE8.out, _, best6, HN.out, HNW8.out⟩⟩
            case measure => simp [intOf]; omega
        · have hjb : j = banks := by omega
          subst hjb
          obtain ⟨hE, nowj, bestj, hS, hnw⟩ := HL.out
          have HE := hd hE
          have HS := hd hS
          have HNW := hd hnw
          clear hE hS hnw
          go_wp2_with fail
          go_end0
          exact ⟨rfl, HE.out, nowj, bestj, by rw [HNS2.out]; exact HS.out, HNW.out⟩
end Go.Proofs.Ytedabpldigcffaa
