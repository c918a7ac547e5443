/- Rows of bytes that grow, in any order beside other operations (no program is named but by its types). -/
import Derived.Test.YtgbjlccgnfcnaaaGreatSvN
namespace Go.Proofs.YtgbjlccgnfcnaaaGreat
open Go.RowKit
set_option linter.unusedSimpArgs false
set_option linter.unusedVariables false

/-- A cell that holds a byte goes on holding a byte; blocks keep their sizes. -/
def Ub (w w' : World) : Prop := Shape w w' ∧ ∀ (k i : Nat) (x : Int), w.cell? ⟨k, i, none⟩ = some (.int .u8 x) → 0 ≤ x → x < 256 → ∃ y, w'.cell? ⟨k, i, none⟩ = some (.int .u8 y) ∧ 0 ≤ y ∧ y < 256
theorem Ub.refl (w : World) : Ub w w := ⟨Shape.refl w, fun _ _ x h h0 h1 => ⟨x, h, h0, h1⟩⟩
theorem Ub.trans {a b c : World} (h : Ub a b) (k : Ub b c) : Ub a c := ⟨h.1.trans k.1, fun i j x hx h0 h1 => by
  obtain ⟨y, hy, y0, y1⟩ := h.2 i j x hx h0 h1
  exact k.2 i j y hy y0 y1⟩
theorem Ub.of_ext {w w' : World} (h : Ext [] w w') : Ub w w' := ⟨Shape.of_ext h, fun i j x hx h0 h1 => ⟨x, h.held hx (by simp), h0, h1⟩⟩
theorem ByR.ub {w w' : World} {base n : Nat} {v : Value} (h : ByR w base v n) (hU : Ub w w') : ByR w' base v n := by
  obtain ⟨xs, ⟨hl, ho⟩, hx⟩ := h
  rcases ho with ⟨rfl, rfl⟩ | ⟨g, cap, cur, rfl, hb, hg, hn, hm, hs, ht⟩
  · exact ⟨[], ⟨rfl, .inl ⟨rfl, rfl⟩⟩, fun x hx => by cases hx⟩
  · obtain ⟨cur', hg', hs'⟩ := hU.1 g cur _ hg
    refine ⟨cur'.toList.take (n * 1), ⟨?_, .inr ⟨g, cap, cur', rfl, hb, hg', hn, hm, hs'.trans hs, rfl⟩⟩, ?_⟩
    · rw [List.length_take, Array.length_toList, hs', hs]
      exact Nat.min_eq_left (Nat.mul_le_mul_right _ hn)
    · intro y hy
      obtain ⟨i, hi⟩ := List.getElem?_of_mem hy
      rw [List.getElem?_take] at hi
      split at hi
      · rename_i hin
        have hi1 : i < xs.length := by rw [hl]; exact hin
        obtain ⟨x, hx1, x0, x1⟩ := hx _ (List.getElem_mem hi1)
        have hc : w.cell? ⟨g, i, none⟩ = some (.int .u8 x) := by
          rw [cell_of_row w g i cur _ (0, 0) hg]
          have h9 := List.getElem?_eq_getElem hi1
          rw [hx1, ← ht, List.getElem?_take, if_pos hin] at h9
          simpa using h9
        obtain ⟨y2, hy2, y0, y1⟩ := hU.2 g i x hc x0 x1
        rw [cell_of_row w' g i cur' _ (0, 0) hg'] at hy2
        have h8 : cur'.toList[i]? = some (.int .u8 y2) := by simpa using hy2
        rw [h8] at hi
        cases hi
        exact ⟨y2, rfl, y0, y1⟩
      · cases hi
theorem run_by' (w : World) (t ty : TypeId) (ht : (Tryz.prog).underlying t = some (.slice 5)) (base : Nat) (v : Value) (n : Nat) (hv : ByR w base v n) (g m c : Nat) (hr : RdU w g m) (hm : 0 < m) (hnm : n + m ≤ 1000000) (hb : base ≤ w.heap.size) :
    ∃ g' cap w', (Builtin.append_ #[t, t] ty #[v, .slice (some ⟨g, 0, none⟩) m c]).run Tryz.prog w = .ok (.slice (some ⟨g', 0, none⟩) (n + m) cap) w' ∧ ByR w' base (.slice (some ⟨g', 0, none⟩) (n + m) cap) (n + m) ∧ Kp base [] w w' ∧ g' < w'.heap.size ∧ base ≤ g' ∧ Ub w w' := by
  obtain ⟨g', cap, w', hr1, h2, h3, h4, h5, _⟩ := run_by w t ty ht base v n hv g m c hr hm hnm hb
  refine ⟨g', cap, w', hr1, h2, h3, h4, h5, ?_⟩
  obtain ⟨i0, hi0, hz0, hz1, hz2⟩ := u8Info
  obtain ⟨ys, k1, k2, k3⟩ := hr
  have hnews : ∀ j u, ys[j]? = some u → w.cell? ((⟨g, 0, none⟩ : Addr).add j) = some u := fun j u hu => by rw [Addr.add_mk, Nat.zero_add]; exact k3 j u hu
  have hl : ys.length = m * i0.size := by rw [hz1, Nat.mul_one]; exact k1
  obtain ⟨xs, hown, hxs⟩ := hv
  rcases hown.2 with ⟨rfl, rfl⟩ | ⟨b, cp, cur, rfl, hbb, hgb, hnc, hcm, hcs, htk⟩
  · have hr2 := run_append_nil (P := Tryz.prog) w t ty 5 i0 _ ht hi0 hz0 ⟨g, 0, none⟩ m c ys hl hnews hm (by omega) (by rw [hz2]; omega)
    have h9 := hr1.symm.trans hr2
    injection h9 with _ e2
    rw [e2]
    exact Ub.of_ext ((Ext.refl _ _).drew.alloc _)
  · by_cases hroom : n + m ≤ cp
    · have hfit : n * i0.size + ys.length ≤ cur.size := by rw [hz1, hcs, k1]; omega
      have hr2 := run_append_room (P := Tryz.prog) w t ty 5 i0 ht hi0 b n cp cur hgb ⟨g, 0, none⟩ m c ys hl hnews k2.one hroom hfit
      have h9 := hr1.symm.trans hr2
      injection h9 with _ e2
      rw [e2]
      refine ⟨Shape.setRow b _ cur _ hgb ?_, fun k i x hx x0 x1 => ?_⟩
      · simp only [List.size_toArray, List.length_append, List.length_take, List.length_drop, Array.length_toList]
        omega
      · by_cases hk : k = b
        · subst hk
          rw [cell_of_row w k i cur _ (0, 0) hgb] at hx
          rw [cell_of_row _ k i _ _ (0, 0) (setRow_heap w k cur _ _ (0, 0) hgb)]
          have hic : i < cur.size := (Array.getElem?_eq_some_iff.1 hx).1
          have hx' : cur.toList[i]? = some (.int .u8 x) := by simpa using hx
          rw [hz1, Nat.mul_one]
          have key : ∃ y, (cur.toList.take n ++ ys ++ cur.toList.drop (n + ys.length))[i]? = some (.int .u8 y) ∧ 0 ≤ y ∧ y < 256 := by
            rcases Nat.lt_or_ge i n with h1 | h1
            · exact ⟨x, by rw [List.append_assoc, List.getElem?_append_left (by rw [List.length_take, Array.length_toList]; omega), List.getElem?_take, if_pos h1]; exact hx', x0, x1⟩
            · have hlt : (cur.toList.take n).length = n := by rw [List.length_take, Array.length_toList]; omega
              rw [List.append_assoc, List.getElem?_append_right (by omega), hlt]
              rcases Nat.lt_or_ge (i - n) ys.length with h2 | h2
              · rw [List.getElem?_append_left h2]
                obtain ⟨y, hy, y0, y1⟩ := k2 _ (List.getElem_mem h2)
                exact ⟨y, by rw [List.getElem?_eq_getElem h2, hy], y0, y1⟩
              · rw [List.getElem?_append_right h2, List.getElem?_drop]
                exact ⟨x, by rw [show n + ys.length + (i - n - ys.length) = i by omega]; exact hx', x0, x1⟩
          obtain ⟨y, hy, y0, y1⟩ := key
          exact ⟨y, by simpa using hy, y0, y1⟩
        · exact ⟨x, by rw [World.cell?_of_block (w := w) (setRow_other w b k _ hk)]; exact hx, x0, x1⟩
    · have holds : ∀ j u, xs[j]? = some u → w.cell? ((⟨b, 0, none⟩ : Addr).add j) = some u := hown.cells (g := b) rfl
      have hr2 := run_append_grow (P := Tryz.prog) w t ty 5 i0 _ ht hi0 hz0 ⟨b, 0, none⟩ n cp xs (by rw [hz1]; exact hown.1) holds ⟨g, 0, none⟩ m c ys hl hnews (by omega) (by omega) (growslice_fits (by omega) (by rw [hz2]; omega))
      have h9 := hr1.symm.trans hr2
      injection h9 with _ e2
      rw [e2]
      exact Ub.of_ext ((Ext.refl _ _).drew.alloc _)
theorem wpList_by' {w : World} {ops : Array Oper} {rest : List Oper} {o : Oper} {a : Act} {Q : Exit → Act → World → Prop} (hgd : o.guard = none) (s x : Operand) (t : TypeId)
    (ho : o.op = .call { callee := .builtin .append, args := #[s, x], argTypes := #[t, t] }) (ht : (Tryz.prog).underlying t = some (.slice 5)) (base : Nat) (v : Value) (n : Nat) (hs : a.eval s = v) (hv : ByR w base v n)
    (g m c : Nat) (hx : a.eval x = .slice (some ⟨g, 0, none⟩) m c) (hr : RdU w g m) (hm : 0 < m) (hnm : n + m ≤ 1000000) (hb : base ≤ w.heap.size)
    (h : ∀ g' cap w', ByR w' base (.slice (some ⟨g', 0, none⟩) (n + m) cap) (n + m) → Kp base [] w w' → g' < w'.heap.size → base ≤ g' → Ub w w' → wpList Tryz.prog ops Q rest (a.put o.dst (.slice (some ⟨g', 0, none⟩) (n + m) cap)) w') :
    wpList Tryz.prog ops Q (o :: rest) a w := by
  refine wpList_plain hgd fun K hK => ?_
  obtain ⟨g', cap, w', hr2, h2, h3, h4, h5, h6⟩ := run_by' w t o.type ht base v n hv g m c hr hm hnm hb
  unfold Oper.wp execOp
  simp only [ho, resolve, invoke, builtin, Sem.run_bind, Sem.run_pure, Result.andThen_ok, List.map_toArray, List.map_cons, List.map_nil, hs, hx, hr2]
  exact hK _ _ (h g' cap w' h2 h3 h4 h5 h6)
/-- As RowP; bytes go on being bytes. -/
def RowU (base n : Nat) (w : World) (e : Ending) (w' : World) : Prop := ∃ g cap, e = .returned (.slice (some ⟨g, 0, none⟩) n cap) ∧ ByR w' base (.slice (some ⟨g, 0, none⟩) n cap) n ∧ Kp base [] w w' ∧ g < w'.heap.size ∧ base ≤ g ∧ Ub w w'
set_option maxRecDepth 100000 in
theorem sealedU_any (base g n cap : Nat) (w : World) (h : ByR w base (.slice (some ⟨g, 0, none⟩) n cap) n) (hn : n ≤ 10000) (hb : base ≤ w.heap.size) :
    Calls Tryz.prog 60 #[.slice (some ⟨g, 0, none⟩) n cap] w (RowU base (n + 4) w) := by
  have H := hd h
  clear h
  go_enter Tryz.func60, Tryz.ntmps60
  go_wp2_with fail
  refine (code_any g n cap _ w (fun _ => rfl) (fun _ => H.o.rd) (by omega)).mono ?_
  rintro e w1 ⟨⟨r, rfl⟩, rfl⟩
  go_wp2_with fail
  refine (low_any r 4 (by omega) (by omega) w).mono ?_
  rintro e w1 ⟨g1, c1, rfl, hr1, hE1, hg1, hg2⟩
  have hzz := hE1.size
  have HY := hd (H.o.ext hE1 (by simp))
  have HU := hd hr1.rd
  have HK := hd (Kp.of_ext (base := base) (G := []) hE1 (by simp))
  have HUB := hd (Ub.of_ext hE1)
  clear hr1 hE1
  go_wp2_with (
    refine wpList_by' rfl _ _ 48 rfl Tryz.underlying48 base _ n rfl HY.o g1 4 c1 rfl HU.out (by omega) (by omega) (by omega) ?_
    intro g9 c9 w9 h9 k9 l9 b9 u9
    have HB9 := hd h9
    have HK9 := hd (HK.o.trans k9)
    have HU9 := hd (HUB.o.trans u9)
    clear h9 k9 u9)
  go_ret
  exact ⟨g9, c9, rfl, HB9.o, HK9.o, l9, b9, HU9.o⟩
end Go.Proofs.YtgbjlccgnfcnaaaGreat
