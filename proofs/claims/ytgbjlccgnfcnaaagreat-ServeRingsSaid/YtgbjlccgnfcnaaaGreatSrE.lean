/- Words drawn: the walk. -/
import Derived.Test.YtgbjlccgnfcnaaaGreatSrD
import Derived.Test.YtgbjlccgnfcnaaaGreatStrN
namespace Go.Proofs.YtgbjlccgnfcnaaaGreat
open Go.RowKit
set_option linter.unusedSimpArgs false
set_option linter.unusedVariables false

theorem Stm.grown {w w' : World} {base g n : Nat} {r : Option Nat} (h : Stm w base g n) (hg : w.grownBy w' r) (ho : ∀ k, r = some k → g < k ∧ base ≤ k) : Stm w' base g n :=
  h.ext (S := r.toList) ((Ext.refl _ w).grown hg (fun q hq => .inl (by simp [hq]))) (fun hm => by have := (ho g (by simpa using hm)).1; omega) (fun x hx => (ho x (by simpa using hx)).2)
def WordsP (base g m n : Nat) (w : World) (e : Ending) (w' : World) : Prop := ∃ (A : Option Addr) (c : Nat) (xs : List Int), e = .returned (.slice A n c) ∧ xs.length = n ∧ w'.ownsRow w.heap.size 3 1 (.slice A n c) n (xs.map (Value.int .i64)) ∧ Ext [g] w w' ∧ Stm w' base g m
set_option maxHeartbeats 1000000 in
set_option maxRecDepth 100000 in
theorem words_any (base g m n : Nat) (w : World) (h : Stm w base g (m + 3 * n)) (hn : n ≤ 10) (hbb : base ≤ w.heap.size) :
    Calls Tryz.prog 21 #[.pointer (some ⟨g, 0, none⟩), .int .i64 n] w (WordsP base g m n w) := by
  obtain ⟨i0, hi0, hz0, hz1, hz2⟩ := intInfo
  have HG := hd h.lt
  have HS := hd h
  clear h
  go_enter Tryz.func21, Tryz.ntmps21
  go_wp2_with fail
  go_loopw [5, 7] (fun v i wr => ∃ (j : Nat) (A : Option Addr) (c : Nat) (xs : List Int), i = .int .i64 j ∧ v = .slice A j c ∧ j ≤ n ∧ Hd (xs.length = j) ∧ Hd (wr.ownsRow w.heap.size 3 1 (.slice A j c) j (xs.map (Value.int .i64))) ∧ Hd (Ext [g] w wr) ∧ Hd (Stm wr base g (m + 3 * (n - j)))) (fun _ i _ => (n - intOf i).toNat)
  case atStart => exact ⟨0, none, 0, [], rfl, rfl, Nat.zero_le _, hd rfl, hd ⟨rfl, .inl ⟨rfl, rfl⟩⟩, hd (Ext.refl _ _), HS⟩
  case round =>
    obtain ⟨j, A, c, xs, rfl, rfl, hj, HX, HO, HE, HT⟩ := hrel
    rename World => wz
    by_cases hlj : j < n
    · go_wp2_with fail
      refine (word_any base g (m + 3 * (n - (j + 1))) wz (HT.o.less (by omega))).mono ?_
      rintro e w9 ⟨r, rfl, hr, hE9, hS9⟩
      have hz9 := hE9.size
      have HNW := hd (cell_one_new w9 (.int .i64 r) 3)
      have HEA := hd (hE9.alloc (.cells #[.int .i64 r] 3))
      have hgl := HG.o
      have hzs := HE.o.size
      have HOA := hd (own_ext HO.o HEA.o (fun k hk => by have := own_base HO.o k hk; simp; omega))
      have HSA := hd (hS9.alloc (.cells #[.int .i64 r] 3))
      have hS9' := hd hS9
      clear hE9 hS9 hr
      go_wp2_with (
        refine wpList_append_lies _ rfl _ _ 22 rfl w.heap.size 3 i0 _ 1 8 Tryz.underlying22 hi0 hz0 hz1 hz2 rfl (by decide) _ j _ rfl HOA.o ⟨w9.heap.size, 0, none⟩ 1 1 [.int .i64 r] rfl rfl HNW.o ?c2 (by omega) ?c3 ?c4 ?c5 _ rfl ?_
        case c2 => intro u hu; rw [List.mem_singleton.1 hu]; rfl
        case c3 => unfold maxLen; omega
        case c4 => omega
        case c5 => simp; omega
        intro g8 c8 w8 ho8 hg8 hi8 ha8
        have HO8 := hd ho8
        have HE8 := hd ((HE.o.trans HEA.o).grown hg8 (fun q hq => .inr (own_base HO.out q hq)))
        have HS8 : Hd (Stm w8 base g (m + 3 * (n - (j + 1)))) := hd (by
          exact HSA.o.grown hg8 (fun k hk => by have := own_base HO.o k hk; omega))
        clear ho8 hg8 hi8)
      go_roundw
      case rel => exact ⟨j + 1, _, c8, xs ++ [r], by go_num, rfl, by omega, hd (by rw [List.length_append, HX.o]; rfl), hd (by rw [List.map_append]; exact HO8.o), HE8, HS8⟩
      case measure => simp [intOf]; omega
    · have hjn : j = n := by omega
      subst hjn
      go_wp2_with fail
      go_ret
      exact ⟨A, c, xs, rfl, HX.o, HO.o, HE.o, HT.o.less (by omega)⟩
end Go.Proofs.YtgbjlccgnfcnaaaGreat
