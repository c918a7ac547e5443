/- The specification's get: a map of the pointers to an instruction's fields. -/
import Derived.Test.YtedabpldigcffaaRefA
import Derived.Test.YtedabpldigcffaaRelW
import Derived.MapKept
namespace Go.Proofs.Ytedabpldigcffaa
open Go.RowKit Go.MapKept
set_option linter.unusedSimpArgs false
set_option linter.unusedVariables false

def GoodMap (pf : Int → Value) (es : Array MapEntry) : Prop := ∀ x ∈ es.toList, ∃ c, x.key = .int .u8 c ∧ x.val = pf c
def MapOK (pf : Int → Value) (B : Nat) (w : World) : Prop := ∃ es cl, w.heap[B]? = some (.map es cl) ∧ GoodMap pf es
def KeyIn (pf : Int → Value) (B : Nat) (c : Int) (w : World) : Prop := ∃ es cl, w.heap[B]? = some (.map es cl) ∧ GoodMap pf es ∧ ∃ x ∈ es.toList, x.key = .int .u8 c
theorem isKey_u8 (c : Int) : IsKey (.int .u8) (.int .u8 c) := by simp [IsKey]
theorem MapOK.new (pf : Int → Value) (w : World) : MapOK pf w.heap.size (w.alloc (.map #[] 0)) := ⟨#[], 0, by show (w.heap.push _)[w.heap.size]? = _; simp, fun x hx => by simp at hx⟩
theorem MapOK.alloc {pf : Int → Value} {B : Nat} {w : World} (h : MapOK pf B w) (o : Obj) : MapOK pf B (w.alloc o) := by
  obtain ⟨es, cl, h1, h2⟩ := h
  exact ⟨es, cl, (Below.heap_alloc w o B (Array.getElem?_eq_some_iff.1 h1).1).trans h1, h2⟩
theorem KeyIn.alloc {pf : Int → Value} {B : Nat} {c : Int} {w : World} (h : KeyIn pf B c w) (o : Obj) : KeyIn pf B c (w.alloc o) := by
  obtain ⟨es, cl, h1, h2⟩ := h
  exact ⟨es, cl, (Below.heap_alloc w o B (Array.getElem?_eq_some_iff.1 h1).1).trans h1, h2⟩

section
variable {P : Program} {mty kt et : TypeId} {pf : Int → Value} {B : Nat} {w : World}
theorem map_put (hm : P.underlying mty = some (.map kt et)) (hd : P.underlying kt = some (.int .u8)) (h : MapOK pf B w) (c : Int) :
    ∃ w', (Instr.mapUpdate mty (.map (some B)) (.int .u8 c) (pf c)).run P w = .ok () w' ∧ KeyIn pf B c w' ∧ (∀ c', KeyIn pf B c' w → KeyIn pf B c' w') ∧ Ext [B] w w' ∧ w'.heap.size = w.heap.size := by
  obtain ⟨es, cl, hb, hg⟩ := h
  have hks : ∀ x ∈ es.toList, IsKey (.int .u8) x.key := fun x hx => by obtain ⟨c, h, _⟩ := hg x hx; rw [h]; exact isKey_u8 c
  have hk := isKey_u8 c
  have key : ∀ (es' : Array MapEntry) (cl' : Nat), GoodMap pf es' → (∃ x ∈ es'.toList, x.key = .int .u8 c) → (∀ c', (∃ x ∈ es.toList, x.key = .int .u8 c') → ∃ x ∈ es'.toList, x.key = .int .u8 c') →
      (Instr.mapUpdate mty (.map (some B)) (.int .u8 c) (pf c)).run P w = .ok () { w with heap := w.heap.setIfInBounds B (.map es' cl') } →
      ∃ w', (Instr.mapUpdate mty (.map (some B)) (.int .u8 c) (pf c)).run P w = .ok () w' ∧ KeyIn pf B c w' ∧ (∀ c', KeyIn pf B c' w → KeyIn pf B c' w') ∧ Ext [B] w w' ∧ w'.heap.size = w.heap.size := by
    intro es' cl' hg' hc hcs hr
    have hs := Go.MapKept.heap_set (o' := .map es' cl') hb
    refine ⟨_, hr, ⟨es', cl', hs.1, hg', hc⟩, ?_, ⟨rfl, rfl, rfl, by simp, fun k hk hn => hs.2 k (by simpa using hn)⟩, by simp⟩
    rintro c' ⟨es2, cl2, hb2, _, hin⟩
    rw [hb] at hb2
    cases hb2
    exact ⟨es', cl', hs.1, hg', hcs c' hin⟩
  rcases findNow_spec hk es.toList 0 hks with ⟨h1, _⟩ | ⟨j, e, h1, h2, h3⟩
  · refine key (es.push ⟨.int .u8 c, pf c, cl⟩) (cl + 1) ?_ ⟨⟨.int .u8 c, pf c, cl⟩, by simp, rfl⟩ ?_ ?_
    · intro x hx
      rw [Array.toList_push] at hx
      rcases List.mem_append.1 hx with hx | hx
      · exact hg x hx
      · rw [List.mem_singleton.1 hx]; exact ⟨c, rfl, rfl⟩
    · rintro c' ⟨x, hx, hc⟩
      exact ⟨x, by rw [Array.toList_push]; exact List.mem_append_left _ hx, hc⟩
    · simp [Instr.mapUpdate, run_underlying hm, Go.MapKept.run_getObj_map hb, Go.MapKept.run_checkKey hd hk, Go.MapKept.run_findKey hd h1, Go.MapKept.run_setObj_map _ hb, Result.andThen]
  · have hj : es[j]? = some e := by simpa using h2
    obtain ⟨hjl, hje⟩ := Array.getElem?_eq_some_iff.1 hj
    refine key (es.modify j fun e => { e with key := .int .u8 c, val := pf c }) cl ?_ ?_ ?_ ?_
    · intro x hx
      rw [Array.mem_toList_iff, Array.mem_iff_getElem?] at hx
      obtain ⟨i, hi⟩ := hx
      rw [Array.getElem?_modify] at hi
      split at hi
      · obtain ⟨y, _, rfl⟩ := Option.map_eq_some_iff.1 hi
        exact ⟨c, rfl, rfl⟩
      · exact hg x (by rw [Array.mem_toList_iff, Array.mem_iff_getElem?]; exact ⟨i, hi⟩)
    · refine ⟨{ e with key := .int .u8 c, val := pf c }, ?_, rfl⟩
      rw [Array.mem_toList_iff, Array.mem_iff_getElem?]
      exact ⟨j, by simp [Array.getElem?_modify, hj]⟩
    · rintro c' ⟨x, hx, hc⟩
      rw [Array.mem_toList_iff, Array.mem_iff_getElem?] at hx
      obtain ⟨i, hi⟩ := hx
      by_cases hij : j = i
      · subst hij
        rw [hj] at hi
        cases hi
        refine ⟨{ e with key := .int .u8 c, val := pf c }, ?_, by rw [← hc, h3]⟩
        rw [Array.mem_toList_iff, Array.mem_iff_getElem?]
        exact ⟨j, by simp [Array.getElem?_modify, hj]⟩
      · refine ⟨x, ?_, hc⟩
        rw [Array.mem_toList_iff, Array.mem_iff_getElem?]
        exact ⟨i, by simp [Array.getElem?_modify, hij, hi]⟩
    · simp [Instr.mapUpdate, run_underlying hm, Go.MapKept.run_getObj_map hb, Go.MapKept.run_checkKey hd hk, Go.MapKept.run_findKey hd h1, hj, h3, Go.MapKept.run_keyThatStays hk, Go.MapKept.run_setObj_map _ hb, Result.andThen]
theorem map_get (hm : P.underlying mty = some (.map kt et)) (hd : P.underlying kt = some (.int .u8)) {c : Int} (h : KeyIn pf B c w) :
    (Instr.lookup mty (.map (some B)) (.int .u8 c) false).run P w = .ok (pf c) w := by
  obtain ⟨es, cl, hb, hg, x, hx, hxc⟩ := h
  have hks : ∀ x ∈ es.toList, IsKey (.int .u8) x.key := fun x hx => by obtain ⟨c, h, _⟩ := hg x hx; rw [h]; exact isKey_u8 c
  have hk := isKey_u8 c
  rcases findNow_spec hk es.toList 0 hks with ⟨_, h1⟩ | ⟨j, e, h1, h2, h3⟩
  · exact absurd hxc (h1 x hx)
  · obtain ⟨c', hc', hv⟩ := hg e (List.mem_of_getElem? h2)
    rw [h3] at hc'
    cases hc'
    simp [Instr.lookup, run_underlying hm, Go.MapKept.run_getObj_map hb, Go.MapKept.run_checkKey hd hk, Go.MapKept.run_findKey hd h1, Result.andThen, hv]
end

/-- What holds at any moment of the literal: as long as its first operation (of weight 1000) is to come, the heap is as it was. -/
def JG (w0 : World) (k : Nat) (w : World) : Prop := k < 2000 ∧ Ext [] w0 w ∧ (1000 ≤ k → w.heap.size = w0.heap.size)
def RG (pf : Int → Value) (B : Nat) (w w' : World) : Prop := (MapOK pf B w → MapOK pf B w') ∧ ∀ c, KeyIn pf B c w → KeyIn pf B c w'
def WG (i : Nat) : Nat := if i = 0 then 1000 else 1
theorem JG.less {w0 : World} (i k : Nat) (w : World) (h : JG w0 (k + WG i) w) : JG w0 k w := by
  have h1 : 1 ≤ WG i := by unfold WG; split <;> omega
  exact ⟨by have := h.1; omega, h.2.1, fun hk => h.2.2 (by omega)⟩
def sMap (pf : Int → Value) (B : Nat) : Spec := ⟨Unit, (), fun _ => .map (some B), fun _ w => MapOK pf B w⟩
def sKey (pf : Int → Value) (B : Nat) (c : Int) : Spec := ⟨Unit, (), fun _ => undef, fun _ w => KeyIn pf B c w⟩
theorem sMap.stays {pf : Int → Value} {B : Nat} : ∀ y w w', RG pf B w w' → (sMap pf B).V y w → (sMap pf B).V y w' := fun _ _ _ hR h => hR.1 h
theorem sKey.stays {pf : Int → Value} {B : Nat} {c : Int} : ∀ y w w', RG pf B w w' → (sKey pf B c).V y w → (sKey pf B c).V y w' := fun _ _ _ hR h => hR.2 c h
section
variable {P : Program} {ops : Array Oper} {S : Nat → Option Spec} {w0 : World} {pf : Int → Value} {k : Nat} {o : Oper} {rest : List Oper} {a : Act} {F : Nat → World → Prop} {Q : Act → World → Prop}
theorem rel_map (hS : S 0 = some (sMap pf w0.heap.size)) (hw : Region.wanted o (yielded ops a.tmps) = true)
    (hr : ∀ w, (execOp a.eval o).run P w = .ok (.value (.map (some w.heap.size))) (w.alloc (.map #[] 0)))
    (h : relAtW P ops WG (JG w0) (RG pf w0.heap.size) S Q 1 rest (a.put o.dst (.map (some w0.heap.size))) (upd F 0 (fun w => MapOK pf w0.heap.size w))) :
    relAtW P ops WG (JG w0) (RG pf w0.heap.size) S Q 0 (o :: rest) a F := by
  refine relAt_valueW (sMap pf w0.heap.size) hS hw (fun w n hJ _ => ?_) (fun _ => h)
  have hJ' : JG w0 (n + 1000) w := hJ
  have hs := hJ'.2.2 (by omega)
  refine ⟨(), _, by rw [hr, hs]; rfl, ?_, ⟨by have := hJ'.1; omega, hJ'.2.1.alloc _, fun hk => by have := hJ'.1; omega⟩, ⟨fun h => h.alloc _, fun c h => h.alloc _⟩⟩
  show MapOK pf w0.heap.size _
  rw [← hs]
  exact MapOK.new pf w
theorem rel_key {mty kt et : TypeId} (c : Int) (hk0 : k ≠ 0) (hS : S k = some (sKey pf w0.heap.size c)) (hw : Region.wanted o (yielded ops a.tmps) = true) (hj : o.after.any (fun e => Region.binds .any e && e.on == 0) = true)
    (hF : F 0 = fun w => MapOK pf w0.heap.size w) (hm : P.underlying mty = some (.map kt et)) (hd : P.underlying kt = some (.int .u8))
    (hr : ∀ w w', (Instr.mapUpdate mty (.map (some w0.heap.size)) (.int .u8 c) (pf c)).run P w = .ok () w' → (execOp a.eval o).run P w = .ok .skip w')
    (h : relAtW P ops WG (JG w0) (RG pf w0.heap.size) S Q (k + 1) rest (a.put o.dst undef) (upd F k (fun w => KeyIn pf w0.heap.size c w))) :
    relAtW P ops WG (JG w0) (RG pf w0.heap.size) S Q k (o :: rest) a F := by
  unfold relAtW OneW
  rw [if_pos hw, hS]
  refine ⟨fun w n hJ hFF => ?_, fun _ => h⟩
  obtain ⟨e, he, hb⟩ := Array.any_eq_true'.1 hj
  simp only [Bool.and_eq_true, beq_iff_eq] at hb
  have hok := hFF e he hb.1
  rw [hb.2, hF] at hok
  obtain ⟨w', hrun, h1, h2, h3, h4⟩ := map_put hm hd hok c
  unfold someAt
  rw [hr w w' hrun]
  have hJ' := JG.less _ _ _ hJ
  refine ⟨⟨(), rfl, h1⟩, ⟨hJ'.1, hJ'.2.1.step h3 (fun x hx => .inr (by rw [List.mem_singleton.1 hx]; exact Nat.le_refl _)), fun hk => by rw [h4]; exact hJ'.2.2 hk⟩, ⟨fun _ => ?_, h2⟩⟩
  obtain ⟨es, cl, h5, h6, _⟩ := h1
  exact ⟨es, cl, h5, h6⟩
/-- The map, seen after key c has come in. -/
theorem rel_seen (c : Int) (j : Nat) (hS : S k = some (⟨Unit, (), fun _ => .map (some w0.heap.size), fun _ w => KeyIn pf w0.heap.size c w⟩ : Spec)) (hw : Region.wanted o (yielded ops a.tmps) = true) (hj : o.after.any (fun e => Region.binds .any e && e.on == j) = true)
    (hF : F j = fun w => KeyIn pf w0.heap.size c w) (hr : ∀ w, (execOp a.eval o).run P w = .ok (.value (.map (some w0.heap.size))) w)
    (h : relAtW P ops WG (JG w0) (RG pf w0.heap.size) S Q (k + 1) rest (a.put o.dst (.map (some w0.heap.size))) (upd F k (fun w => KeyIn pf w0.heap.size c w))) :
    relAtW P ops WG (JG w0) (RG pf w0.heap.size) S Q k (o :: rest) a F := by
  refine relAt_valueW _ hS hw (fun w n hJ hFF => ?_) (fun _ => h)
  obtain ⟨e, he, hb⟩ := Array.any_eq_true'.1 hj
  simp only [Bool.and_eq_true, beq_iff_eq] at hb
  have hok := hFF e he hb.1
  rw [hb.2, hF] at hok
  exact ⟨(), w, hr w, hok, JG.less _ _ _ hJ, ⟨id, fun _ => id⟩⟩
theorem rel_look {mty kt et : TypeId} (c : Int) (j : Nat) (hS : S k = some (sFix (pf c))) (hw : Region.wanted o (yielded ops a.tmps) = true) (hj : o.after.any (fun e => Region.binds .any e && e.on == j) = true)
    (hF : F j = fun w => KeyIn pf w0.heap.size c w) (hm : P.underlying mty = some (.map kt et)) (hd : P.underlying kt = some (.int .u8))
    (hr : ∀ w, (Instr.lookup mty (.map (some w0.heap.size)) (.int .u8 c) false).run P w = .ok (pf c) w → (execOp a.eval o).run P w = .ok (.value (pf c)) w)
    (h : relAtW P ops WG (JG w0) (RG pf w0.heap.size) S Q (k + 1) rest (a.put o.dst (pf c)) (upd F k (fun _ => True))) :
    relAtW P ops WG (JG w0) (RG pf w0.heap.size) S Q k (o :: rest) a F := by
  refine relAt_valueW (sFix (pf c)) hS hw (fun w n hJ hFF => ?_) (fun _ => h)
  obtain ⟨e, he, hb⟩ := Array.any_eq_true'.1 hj
  simp only [Bool.and_eq_true, beq_iff_eq] at hb
  have hok := hFF e he hb.1
  rw [hb.2, hF] at hok
  exact ⟨(), w, hr w (map_get hm hd hok), trivial, JG.less _ _ _ hJ, ⟨id, fun _ => id⟩⟩
end

/-- Where a field lies. -/
def fieldIx (c : Int) : Nat := if c = 68 then 2 else if c = 65 then 3 else if c = 66 then 4 else if c = 67 then 5 else if c = 78 then 7 else 8
def fieldPf (b : Nat) (c : Int) : Value := .pointer (some ⟨b, fieldIx c, none⟩)

set_option maxHeartbeats 2000000 in
set_option maxRecDepth 100000 in
theorem get_68 (b : Nat) (w : World) :
    Calls Try.prog 97 #[.pointer (some ⟨b, 0, none⟩), .int .u8 68] w fun e w' => e = .returned (.pointer (some ⟨b, 2, none⟩)) ∧ Ext [] w w' := by
  go_enter Try.func97, Try.ntmps97
  go_wp2_with fail
  refine wp_region_relW 28 WG (JG w) (RG (fieldPf b) w.heap.size) (kinds [(0, sMap (fieldPf b) w.heap.size), (4, sKey (fieldPf b) w.heap.size 68), (8, sKey (fieldPf b) w.heap.size 65), (12, sKey (fieldPf b) w.heap.size 66), (16, sKey (fieldPf b) w.heap.size 67), (20, sKey (fieldPf b) w.heap.size 78), (24, sKey (fieldPf b) w.heap.size 77), (25, ⟨Unit, (), fun _ => .map (some w.heap.size), fun _ w' => KeyIn (fieldPf b) w.heap.size 68 w'⟩), (27, sFix (fieldPf b 68))]) (by kernel_rfl) (by kernel_rfl) JG.less ?_ 1027 (by kernel_rfl) ⟨by omega, (Ext.refl _ _).drew, fun _ => rfl⟩ ?_
  · repeat (first | exact Stays.nil | refine Stays.cons sMap.stays ?_ | refine Stays.cons sKey.stays ?_ | refine Stays.cons sFix.stays ?_ | refine Stays.cons (fun _ _ _ hR h => hR.2 _ h) ?_)
  simp only [List.take_succ_cons, List.take_zero, List.drop_succ_cons, List.drop_zero]
  refine rel_map rfl rfl (fun wr => ?_) ?_
  · go_simp
    rfl
  simp only [Act.put, List.setIfInBounds_toArray, List.set_cons_succ, List.set_cons_zero]
  repeat
    refine relAt_detW rfl rfl ?_
    apply Exists.intro
    refine ⟨fun wr nr hJ => ?_, ?_⟩
    · clear hJ
      (go_simp; try go_bits)
      first | rfl | exact ⟨rfl, rfl⟩
    simp only [Act.put, List.setIfInBounds_toArray, List.set_cons_succ, List.set_cons_zero]
  refine rel_key (mty := 163) (kt := 5) (et := 146) 68 (by decide) rfl rfl (by kernel_rfl) rfl (by kernel_rfl) (by kernel_rfl) (fun wr wr' hr => ?_) ?_
  · have hr2 : (Instr.mapUpdate 163 (.map (some w.heap.size)) (.int .u8 68) (.pointer (some ⟨b, 2, none⟩))).run Try.prog wr = .ok () wr' := hr
    clear hr
    unfold execOp
    go_simp
  simp only [Act.put, List.setIfInBounds_toArray, List.set_cons_succ, List.set_cons_zero]
  repeat
    refine relAt_detW rfl rfl ?_
    apply Exists.intro
    refine ⟨fun wr nr hJ => ?_, ?_⟩
    · clear hJ
      (go_simp; try go_bits)
      first | rfl | exact ⟨rfl, rfl⟩
    simp only [Act.put, List.setIfInBounds_toArray, List.set_cons_succ, List.set_cons_zero]
  refine rel_key (mty := 163) (kt := 5) (et := 146) 65 (by decide) rfl rfl (by kernel_rfl) rfl (by kernel_rfl) (by kernel_rfl) (fun wr wr' hr => ?_) ?_
  · have hr2 : (Instr.mapUpdate 163 (.map (some w.heap.size)) (.int .u8 65) (.pointer (some ⟨b, 3, none⟩))).run Try.prog wr = .ok () wr' := hr
    clear hr
    unfold execOp
    go_simp
  simp only [Act.put, List.setIfInBounds_toArray, List.set_cons_succ, List.set_cons_zero]
  repeat
    refine relAt_detW rfl rfl ?_
    apply Exists.intro
    refine ⟨fun wr nr hJ => ?_, ?_⟩
    · clear hJ
      (go_simp; try go_bits)
      first | rfl | exact ⟨rfl, rfl⟩
    simp only [Act.put, List.setIfInBounds_toArray, List.set_cons_succ, List.set_cons_zero]
  refine rel_key (mty := 163) (kt := 5) (et := 146) 66 (by decide) rfl rfl (by kernel_rfl) rfl (by kernel_rfl) (by kernel_rfl) (fun wr wr' hr => ?_) ?_
  · have hr2 : (Instr.mapUpdate 163 (.map (some w.heap.size)) (.int .u8 66) (.pointer (some ⟨b, 4, none⟩))).run Try.prog wr = .ok () wr' := hr
    clear hr
    unfold execOp
    go_simp
  simp only [Act.put, List.setIfInBounds_toArray, List.set_cons_succ, List.set_cons_zero]
  repeat
    refine relAt_detW rfl rfl ?_
    apply Exists.intro
    refine ⟨fun wr nr hJ => ?_, ?_⟩
    · clear hJ
      (go_simp; try go_bits)
      first | rfl | exact ⟨rfl, rfl⟩
    simp only [Act.put, List.setIfInBounds_toArray, List.set_cons_succ, List.set_cons_zero]
  refine rel_key (mty := 163) (kt := 5) (et := 146) 67 (by decide) rfl rfl (by kernel_rfl) rfl (by kernel_rfl) (by kernel_rfl) (fun wr wr' hr => ?_) ?_
  · have hr2 : (Instr.mapUpdate 163 (.map (some w.heap.size)) (.int .u8 67) (.pointer (some ⟨b, 5, none⟩))).run Try.prog wr = .ok () wr' := hr
    clear hr
    unfold execOp
    go_simp
  simp only [Act.put, List.setIfInBounds_toArray, List.set_cons_succ, List.set_cons_zero]
  repeat
    refine relAt_detW rfl rfl ?_
    apply Exists.intro
    refine ⟨fun wr nr hJ => ?_, ?_⟩
    · clear hJ
      (go_simp; try go_bits)
      first | rfl | exact ⟨rfl, rfl⟩
    simp only [Act.put, List.setIfInBounds_toArray, List.set_cons_succ, List.set_cons_zero]
  refine rel_key (mty := 163) (kt := 5) (et := 146) 78 (by decide) rfl rfl (by kernel_rfl) rfl (by kernel_rfl) (by kernel_rfl) (fun wr wr' hr => ?_) ?_
  · have hr2 : (Instr.mapUpdate 163 (.map (some w.heap.size)) (.int .u8 78) (.pointer (some ⟨b, 7, none⟩))).run Try.prog wr = .ok () wr' := hr
    clear hr
    unfold execOp
    go_simp
  simp only [Act.put, List.setIfInBounds_toArray, List.set_cons_succ, List.set_cons_zero]
  repeat
    refine relAt_detW rfl rfl ?_
    apply Exists.intro
    refine ⟨fun wr nr hJ => ?_, ?_⟩
    · clear hJ
      (go_simp; try go_bits)
      first | rfl | exact ⟨rfl, rfl⟩
    simp only [Act.put, List.setIfInBounds_toArray, List.set_cons_succ, List.set_cons_zero]
  refine rel_key (mty := 163) (kt := 5) (et := 146) 77 (by decide) rfl rfl (by kernel_rfl) rfl (by kernel_rfl) (by kernel_rfl) (fun wr wr' hr => ?_) ?_
  · have hr2 : (Instr.mapUpdate 163 (.map (some w.heap.size)) (.int .u8 77) (.pointer (some ⟨b, 8, none⟩))).run Try.prog wr = .ok () wr' := hr
    clear hr
    unfold execOp
    go_simp
  simp only [Act.put, List.setIfInBounds_toArray, List.set_cons_succ, List.set_cons_zero]
  refine rel_seen 68 4 rfl rfl (by kernel_rfl) rfl (fun wr => ?_) ?_
  · go_simp
  simp only [Act.put, List.setIfInBounds_toArray, List.set_cons_succ, List.set_cons_zero]
  repeat
    refine relAt_detW rfl rfl ?_
    apply Exists.intro
    refine ⟨fun wr nr hJ => ?_, ?_⟩
    · clear hJ
      (go_simp; try go_bits)
      first | rfl | exact ⟨rfl, rfl⟩
    simp only [Act.put, List.setIfInBounds_toArray, List.set_cons_succ, List.set_cons_zero]
  refine rel_look (mty := 163) (kt := 5) (et := 146) 68 25 rfl rfl (by kernel_rfl) rfl (by kernel_rfl) (by kernel_rfl) (fun wr hr => ?_) ?_
  · have hr2 : (Instr.lookup 163 (.map (some w.heap.size)) (.int .u8 68) false).run Try.prog wr = .ok (.pointer (some ⟨b, 2, none⟩)) wr := hr
    clear hr
    unfold execOp
    go_simp
    rfl
  simp only [Act.put, List.setIfInBounds_toArray, List.set_cons_succ, List.set_cons_zero]
  refine relAt_nilW (fun w1 hJ hF => ?_)
  clear hF
  have hE := hJ.2.1
  clear hJ
  go_wp2_with fail
  go_ret
  exact ⟨rfl, hE⟩

set_option maxHeartbeats 2000000 in
set_option maxRecDepth 100000 in
theorem get_65 (b : Nat) (w : World) :
    Calls Try.prog 97 #[.pointer (some ⟨b, 0, none⟩), .int .u8 65] w fun e w' => e = .returned (.pointer (some ⟨b, 3, none⟩)) ∧ Ext [] w w' := by
  go_enter Try.func97, Try.ntmps97
  go_wp2_with fail
  refine wp_region_relW 28 WG (JG w) (RG (fieldPf b) w.heap.size) (kinds [(0, sMap (fieldPf b) w.heap.size), (4, sKey (fieldPf b) w.heap.size 68), (8, sKey (fieldPf b) w.heap.size 65), (12, sKey (fieldPf b) w.heap.size 66), (16, sKey (fieldPf b) w.heap.size 67), (20, sKey (fieldPf b) w.heap.size 78), (24, sKey (fieldPf b) w.heap.size 77), (25, ⟨Unit, (), fun _ => .map (some w.heap.size), fun _ w' => KeyIn (fieldPf b) w.heap.size 65 w'⟩), (27, sFix (fieldPf b 65))]) (by kernel_rfl) (by kernel_rfl) JG.less ?_ 1027 (by kernel_rfl) ⟨by omega, (Ext.refl _ _).drew, fun _ => rfl⟩ ?_
  · repeat (first | exact Stays.nil | refine Stays.cons sMap.stays ?_ | refine Stays.cons sKey.stays ?_ | refine Stays.cons sFix.stays ?_ | refine Stays.cons (fun _ _ _ hR h => hR.2 _ h) ?_)
  simp only [List.take_succ_cons, List.take_zero, List.drop_succ_cons, List.drop_zero]
  refine rel_map rfl rfl (fun wr => ?_) ?_
  · go_simp
    rfl
  simp only [Act.put, List.setIfInBounds_toArray, List.set_cons_succ, List.set_cons_zero]
  repeat
    refine relAt_detW rfl rfl ?_
    apply Exists.intro
    refine ⟨fun wr nr hJ => ?_, ?_⟩
    · clear hJ
      (go_simp; try go_bits)
      first | rfl | exact ⟨rfl, rfl⟩
    simp only [Act.put, List.setIfInBounds_toArray, List.set_cons_succ, List.set_cons_zero]
  refine rel_key (mty := 163) (kt := 5) (et := 146) 68 (by decide) rfl rfl (by kernel_rfl) rfl (by kernel_rfl) (by kernel_rfl) (fun wr wr' hr => ?_) ?_
  · have hr2 : (Instr.mapUpdate 163 (.map (some w.heap.size)) (.int .u8 68) (.pointer (some ⟨b, 2, none⟩))).run Try.prog wr = .ok () wr' := hr
    clear hr
    unfold execOp
    go_simp
  simp only [Act.put, List.setIfInBounds_toArray, List.set_cons_succ, List.set_cons_zero]
  repeat
    refine relAt_detW rfl rfl ?_
    apply Exists.intro
    refine ⟨fun wr nr hJ => ?_, ?_⟩
    · clear hJ
      (go_simp; try go_bits)
      first | rfl | exact ⟨rfl, rfl⟩
    simp only [Act.put, List.setIfInBounds_toArray, List.set_cons_succ, List.set_cons_zero]
  refine rel_key (mty := 163) (kt := 5) (et := 146) 65 (by decide) rfl rfl (by kernel_rfl) rfl (by kernel_rfl) (by kernel_rfl) (fun wr wr' hr => ?_) ?_
  · have hr2 : (Instr.mapUpdate 163 (.map (some w.heap.size)) (.int .u8 65) (.pointer (some ⟨b, 3, none⟩))).run Try.prog wr = .ok () wr' := hr
    clear hr
    unfold execOp
    go_simp
  simp only [Act.put, List.setIfInBounds_toArray, List.set_cons_succ, List.set_cons_zero]
  repeat
    refine relAt_detW rfl rfl ?_
    apply Exists.intro
    refine ⟨fun wr nr hJ => ?_, ?_⟩
    · clear hJ
      (go_simp; try go_bits)
      first | rfl | exact ⟨rfl, rfl⟩
    simp only [Act.put, List.setIfInBounds_toArray, List.set_cons_succ, List.set_cons_zero]
  refine rel_key (mty := 163) (kt := 5) (et := 146) 66 (by decide) rfl rfl (by kernel_rfl) rfl (by kernel_rfl) (by kernel_rfl) (fun wr wr' hr => ?_) ?_
  · have hr2 : (Instr.mapUpdate 163 (.map (some w.heap.size)) (.int .u8 66) (.pointer (some ⟨b, 4, none⟩))).run Try.prog wr = .ok () wr' := hr
    clear hr
    unfold execOp
    go_simp
  simp only [Act.put, List.setIfInBounds_toArray, List.set_cons_succ, List.set_cons_zero]
  repeat
    refine relAt_detW rfl rfl ?_
    apply Exists.intro
    refine ⟨fun wr nr hJ => ?_, ?_⟩
    · clear hJ
      (go_simp; try go_bits)
      first | rfl | exact ⟨rfl, rfl⟩
    simp only [Act.put, List.setIfInBounds_toArray, List.set_cons_succ, List.set_cons_zero]
  refine rel_key (mty := 163) (kt := 5) (et := 146) 67 (by decide) rfl rfl (by kernel_rfl) rfl (by kernel_rfl) (by kernel_rfl) (fun wr wr' hr => ?_) ?_
  · have hr2 : (Instr.mapUpdate 163 (.map (some w.heap.size)) (.int .u8 67) (.pointer (some ⟨b, 5, none⟩))).run Try.prog wr = .ok () wr' := hr
    clear hr
    unfold execOp
    go_simp
  simp only [Act.put, List.setIfInBounds_toArray, List.set_cons_succ, List.set_cons_zero]
  repeat
    refine relAt_detW rfl rfl ?_
    apply Exists.intro
    refine ⟨fun wr nr hJ => ?_, ?_⟩
    · clear hJ
      (go_simp; try go_bits)
      first | rfl | exact ⟨rfl, rfl⟩
    simp only [Act.put, List.setIfInBounds_toArray, List.set_cons_succ, List.set_cons_zero]
  refine rel_key (mty := 163) (kt := 5) (et := 146) 78 (by decide) rfl rfl (by kernel_rfl) rfl (by kernel_rfl) (by kernel_rfl) (fun wr wr' hr => ?_) ?_
  · have hr2 : (Instr.mapUpdate 163 (.map (some w.heap.size)) (.int .u8 78) (.pointer (some ⟨b, 7, none⟩))).run Try.prog wr = .ok () wr' := hr
    clear hr
    unfold execOp
    go_simp
  simp only [Act.put, List.setIfInBounds_toArray, List.set_cons_succ, List.set_cons_zero]
  repeat
    refine relAt_detW rfl rfl ?_
    apply Exists.intro
    refine ⟨fun wr nr hJ => ?_, ?_⟩
    · clear hJ
      (go_simp; try go_bits)
      first | rfl | exact ⟨rfl, rfl⟩
    simp only [Act.put, List.setIfInBounds_toArray, List.set_cons_succ, List.set_cons_zero]
  refine rel_key (mty := 163) (kt := 5) (et := 146) 77 (by decide) rfl rfl (by kernel_rfl) rfl (by kernel_rfl) (by kernel_rfl) (fun wr wr' hr => ?_) ?_
  · have hr2 : (Instr.mapUpdate 163 (.map (some w.heap.size)) (.int .u8 77) (.pointer (some ⟨b, 8, none⟩))).run Try.prog wr = .ok () wr' := hr
    clear hr
    unfold execOp
    go_simp
  simp only [Act.put, List.setIfInBounds_toArray, List.set_cons_succ, List.set_cons_zero]
  refine rel_seen 65 8 rfl rfl (by kernel_rfl) rfl (fun wr => ?_) ?_
  · go_simp
  simp only [Act.put, List.setIfInBounds_toArray, List.set_cons_succ, List.set_cons_zero]
  repeat
    refine relAt_detW rfl rfl ?_
    apply Exists.intro
    refine ⟨fun wr nr hJ => ?_, ?_⟩
    · clear hJ
      (go_simp; try go_bits)
      first | rfl | exact ⟨rfl, rfl⟩
    simp only [Act.put, List.setIfInBounds_toArray, List.set_cons_succ, List.set_cons_zero]
  refine rel_look (mty := 163) (kt := 5) (et := 146) 65 25 rfl rfl (by kernel_rfl) rfl (by kernel_rfl) (by kernel_rfl) (fun wr hr => ?_) ?_
  · have hr2 : (Instr.lookup 163 (.map (some w.heap.size)) (.int .u8 65) false).run Try.prog wr = .ok (.pointer (some ⟨b, 3, none⟩)) wr := hr
    clear hr
    unfold execOp
    go_simp
    rfl
  simp only [Act.put, List.setIfInBounds_toArray, List.set_cons_succ, List.set_cons_zero]
  refine relAt_nilW (fun w1 hJ hF => ?_)
  clear hF
  have hE := hJ.2.1
  clear hJ
  go_wp2_with fail
  go_ret
  exact ⟨rfl, hE⟩

set_option maxHeartbeats 2000000 in
set_option maxRecDepth 100000 in
theorem get_66 (b : Nat) (w : World) :
    Calls Try.prog 97 #[.pointer (some ⟨b, 0, none⟩), .int .u8 66] w fun e w' => e = .returned (.pointer (some ⟨b, 4, none⟩)) ∧ Ext [] w w' := by
  go_enter Try.func97, Try.ntmps97
  go_wp2_with fail
  refine wp_region_relW 28 WG (JG w) (RG (fieldPf b) w.heap.size) (kinds [(0, sMap (fieldPf b) w.heap.size), (4, sKey (fieldPf b) w.heap.size 68), (8, sKey (fieldPf b) w.heap.size 65), (12, sKey (fieldPf b) w.heap.size 66), (16, sKey (fieldPf b) w.heap.size 67), (20, sKey (fieldPf b) w.heap.size 78), (24, sKey (fieldPf b) w.heap.size 77), (25, ⟨Unit, (), fun _ => .map (some w.heap.size), fun _ w' => KeyIn (fieldPf b) w.heap.size 66 w'⟩), (27, sFix (fieldPf b 66))]) (by kernel_rfl) (by kernel_rfl) JG.less ?_ 1027 (by kernel_rfl) ⟨by omega, (Ext.refl _ _).drew, fun _ => rfl⟩ ?_
  · repeat (first | exact Stays.nil | refine Stays.cons sMap.stays ?_ | refine Stays.cons sKey.stays ?_ | refine Stays.cons sFix.stays ?_ | refine Stays.cons (fun _ _ _ hR h => hR.2 _ h) ?_)
  simp only [List.take_succ_cons, List.take_zero, List.drop_succ_cons, List.drop_zero]
  refine rel_map rfl rfl (fun wr => ?_) ?_
  · go_simp
    rfl
  simp only [Act.put, List.setIfInBounds_toArray, List.set_cons_succ, List.set_cons_zero]
  repeat
    refine relAt_detW rfl rfl ?_
    apply Exists.intro
    refine ⟨fun wr nr hJ => ?_, ?_⟩
    · clear hJ
      (go_simp; try go_bits)
      first | rfl | exact ⟨rfl, rfl⟩
    simp only [Act.put, List.setIfInBounds_toArray, List.set_cons_succ, List.set_cons_zero]
  refine rel_key (mty := 163) (kt := 5) (et := 146) 68 (by decide) rfl rfl (by kernel_rfl) rfl (by kernel_rfl) (by kernel_rfl) (fun wr wr' hr => ?_) ?_
  · have hr2 : (Instr.mapUpdate 163 (.map (some w.heap.size)) (.int .u8 68) (.pointer (some ⟨b, 2, none⟩))).run Try.prog wr = .ok () wr' := hr
    clear hr
    unfold execOp
    go_simp
  simp only [Act.put, List.setIfInBounds_toArray, List.set_cons_succ, List.set_cons_zero]
  repeat
    refine relAt_detW rfl rfl ?_
    apply Exists.intro
    refine ⟨fun wr nr hJ => ?_, ?_⟩
    · clear hJ
      (go_simp; try go_bits)
      first | rfl | exact ⟨rfl, rfl⟩
    simp only [Act.put, List.setIfInBounds_toArray, List.set_cons_succ, List.set_cons_zero]
  refine rel_key (mty := 163) (kt := 5) (et := 146) 65 (by decide) rfl rfl (by kernel_rfl) rfl (by kernel_rfl) (by kernel_rfl) (fun wr wr' hr => ?_) ?_
  · have hr2 : (Instr.mapUpdate 163 (.map (some w.heap.size)) (.int .u8 65) (.pointer (some ⟨b, 3, none⟩))).run Try.prog wr = .ok () wr' := hr
    clear hr
    unfold execOp
    go_simp
  simp only [Act.put, List.setIfInBounds_toArray, List.set_cons_succ, List.set_cons_zero]
  repeat
    refine relAt_detW rfl rfl ?_
    apply Exists.intro
    refine ⟨fun wr nr hJ => ?_, ?_⟩
    · clear hJ
      (go_simp; try go_bits)
      first | rfl | exact ⟨rfl, rfl⟩
    simp only [Act.put, List.setIfInBounds_toArray, List.set_cons_succ, List.set_cons_zero]
  refine rel_key (mty := 163) (kt := 5) (et := 146) 66 (by decide) rfl rfl (by kernel_rfl) rfl (by kernel_rfl) (by kernel_rfl) (fun wr wr' hr => ?_) ?_
  · have hr2 : (Instr.mapUpdate 163 (.map (some w.heap.size)) (.int .u8 66) (.pointer (some ⟨b, 4, none⟩))).run Try.prog wr = .ok () wr' := hr
    clear hr
    unfold execOp
    go_simp
  simp only [Act.put, List.setIfInBounds_toArray, List.set_cons_succ, List.set_cons_zero]
  repeat
    refine relAt_detW rfl rfl ?_
    apply Exists.intro
    refine ⟨fun wr nr hJ => ?_, ?_⟩
    · clear hJ
      (go_simp; try go_bits)
      first | rfl | exact ⟨rfl, rfl⟩
    simp only [Act.put, List.setIfInBounds_toArray, List.set_cons_succ, List.set_cons_zero]
  refine rel_key (mty := 163) (kt := 5) (et := 146) 67 (by decide) rfl rfl (by kernel_rfl) rfl (by kernel_rfl) (by kernel_rfl) (fun wr wr' hr => ?_) ?_
  · have hr2 : (Instr.mapUpdate 163 (.map (some w.heap.size)) (.int .u8 67) (.pointer (some ⟨b, 5, none⟩))).run Try.prog wr = .ok () wr' := hr
    clear hr
    unfold execOp
    go_simp
  simp only [Act.put, List.setIfInBounds_toArray, List.set_cons_succ, List.set_cons_zero]
  repeat
    refine relAt_detW rfl rfl ?_
    apply Exists.intro
    refine ⟨fun wr nr hJ => ?_, ?_⟩
    · clear hJ
      (go_simp; try go_bits)
      first | rfl | exact ⟨rfl, rfl⟩
    simp only [Act.put, List.setIfInBounds_toArray, List.set_cons_succ, List.set_cons_zero]
  refine rel_key (mty := 163) (kt := 5) (et := 146) 78 (by decide) rfl rfl (by kernel_rfl) rfl (by kernel_rfl) (by kernel_rfl) (fun wr wr' hr => ?_) ?_
  · have hr2 : (Instr.mapUpdate 163 (.map (some w.heap.size)) (.int .u8 78) (.pointer (some ⟨b, 7, none⟩))).run Try.prog wr = .ok () wr' := hr
    clear hr
    unfold execOp
    go_simp
  simp only [Act.put, List.setIfInBounds_toArray, List.set_cons_succ, List.set_cons_zero]
  repeat
    refine relAt_detW rfl rfl ?_
    apply Exists.intro
    refine ⟨fun wr nr hJ => ?_, ?_⟩
    · clear hJ
      (go_simp; try go_bits)
      first | rfl | exact ⟨rfl, rfl⟩
    simp only [Act.put, List.setIfInBounds_toArray, List.set_cons_succ, List.set_cons_zero]
  refine rel_key (mty := 163) (kt := 5) (et := 146) 77 (by decide) rfl rfl (by kernel_rfl) rfl (by kernel_rfl) (by kernel_rfl) (fun wr wr' hr => ?_) ?_
  · have hr2 : (Instr.mapUpdate 163 (.map (some w.heap.size)) (.int .u8 77) (.pointer (some ⟨b, 8, none⟩))).run Try.prog wr = .ok () wr' := hr
    clear hr
    unfold execOp
    go_simp
  simp only [Act.put, List.setIfInBounds_toArray, List.set_cons_succ, List.set_cons_zero]
  refine rel_seen 66 12 rfl rfl (by kernel_rfl) rfl (fun wr => ?_) ?_
  · go_simp
  simp only [Act.put, List.setIfInBounds_toArray, List.set_cons_succ, List.set_cons_zero]
  repeat
    refine relAt_detW rfl rfl ?_
    apply Exists.intro
    refine ⟨fun wr nr hJ => ?_, ?_⟩
    · clear hJ
      (go_simp; try go_bits)
      first | rfl | exact ⟨rfl, rfl⟩
    simp only [Act.put, List.setIfInBounds_toArray, List.set_cons_succ, List.set_cons_zero]
  refine rel_look (mty := 163) (kt := 5) (et := 146) 66 25 rfl rfl (by kernel_rfl) rfl (by kernel_rfl) (by kernel_rfl) (fun wr hr => ?_) ?_
  · have hr2 : (Instr.lookup 163 (.map (some w.heap.size)) (.int .u8 66) false).run Try.prog wr = .ok (.pointer (some ⟨b, 4, none⟩)) wr := hr
    clear hr
    unfold execOp
    go_simp
    rfl
  simp only [Act.put, List.setIfInBounds_toArray, List.set_cons_succ, List.set_cons_zero]
  refine relAt_nilW (fun w1 hJ hF => ?_)
  clear hF
  have hE := hJ.2.1
  clear hJ
  go_wp2_with fail
  go_ret
  exact ⟨rfl, hE⟩

set_option maxHeartbeats 2000000 in
set_option maxRecDepth 100000 in
theorem get_67 (b : Nat) (w : World) :
    Calls Try.prog 97 #[.pointer (some ⟨b, 0, none⟩), .int .u8 67] w fun e w' => e = .returned (.pointer (some ⟨b, 5, none⟩)) ∧ Ext [] w w' := by
  go_enter Try.func97, Try.ntmps97
  go_wp2_with fail
  refine wp_region_relW 28 WG (JG w) (RG (fieldPf b) w.heap.size) (kinds [(0, sMap (fieldPf b) w.heap.size), (4, sKey (fieldPf b) w.heap.size 68), (8, sKey (fieldPf b) w.heap.size 65), (12, sKey (fieldPf b) w.heap.size 66), (16, sKey (fieldPf b) w.heap.size 67), (20, sKey (fieldPf b) w.heap.size 78), (24, sKey (fieldPf b) w.heap.size 77), (25, ⟨Unit, (), fun _ => .map (some w.heap.size), fun _ w' => KeyIn (fieldPf b) w.heap.size 67 w'⟩), (27, sFix (fieldPf b 67))]) (by kernel_rfl) (by kernel_rfl) JG.less ?_ 1027 (by kernel_rfl) ⟨by omega, (Ext.refl _ _).drew, fun _ => rfl⟩ ?_
  · repeat (first | exact Stays.nil | refine Stays.cons sMap.stays ?_ | refine Stays.cons sKey.stays ?_ | refine Stays.cons sFix.stays ?_ | refine Stays.cons (fun _ _ _ hR h => hR.2 _ h) ?_)
  simp only [List.take_succ_cons, List.take_zero, List.drop_succ_cons, List.drop_zero]
  refine rel_map rfl rfl (fun wr => ?_) ?_
  · go_simp
    rfl
  simp only [Act.put, List.setIfInBounds_toArray, List.set_cons_succ, List.set_cons_zero]
  repeat
    refine relAt_detW rfl rfl ?_
    apply Exists.intro
    refine ⟨fun wr nr hJ => ?_, ?_⟩
    · clear hJ
      (go_simp; try go_bits)
      first | rfl | exact ⟨rfl, rfl⟩
    simp only [Act.put, List.setIfInBounds_toArray, List.set_cons_succ, List.set_cons_zero]
  refine rel_key (mty := 163) (kt := 5) (et := 146) 68 (by decide) rfl rfl (by kernel_rfl) rfl (by kernel_rfl) (by kernel_rfl) (fun wr wr' hr => ?_) ?_
  · have hr2 : (Instr.mapUpdate 163 (.map (some w.heap.size)) (.int .u8 68) (.pointer (some ⟨b, 2, none⟩))).run Try.prog wr = .ok () wr' := hr
    clear hr
    unfold execOp
    go_simp
  simp only [Act.put, List.setIfInBounds_toArray, List.set_cons_succ, List.set_cons_zero]
  repeat
    refine relAt_detW rfl rfl ?_
    apply Exists.intro
    refine ⟨fun wr nr hJ => ?_, ?_⟩
    · clear hJ
      (go_simp; try go_bits)
      first | rfl | exact ⟨rfl, rfl⟩
    simp only [Act.put, List.setIfInBounds_toArray, List.set_cons_succ, List.set_cons_zero]
  refine rel_key (mty := 163) (kt := 5) (et := 146) 65 (by decide) rfl rfl (by kernel_rfl) rfl (by kernel_rfl) (by kernel_rfl) (fun wr wr' hr => ?_) ?_
  · have hr2 : (Instr.mapUpdate 163 (.map (some w.heap.size)) (.int .u8 65) (.pointer (some ⟨b, 3, none⟩))).run Try.prog wr = .ok () wr' := hr
    clear hr
    unfold execOp
    go_simp
  simp only [Act.put, List.setIfInBounds_toArray, List.set_cons_succ, List.set_cons_zero]
  repeat
    refine relAt_detW rfl rfl ?_
    apply Exists.intro
    refine ⟨fun wr nr hJ => ?_, ?_⟩
    · clear hJ
      (go_simp; try go_bits)
      first | rfl | exact ⟨rfl, rfl⟩
    simp only [Act.put, List.setIfInBounds_toArray, List.set_cons_succ, List.set_cons_zero]
  refine rel_key (mty := 163) (kt := 5) (et := 146) 66 (by decide) rfl rfl (by kernel_rfl) rfl (by kernel_rfl) (by kernel_rfl) (fun wr wr' hr => ?_) ?_
  · have hr2 : (Instr.mapUpdate 163 (.map (some w.heap.size)) (.int .u8 66) (.pointer (some ⟨b, 4, none⟩))).run Try.prog wr = .ok () wr' := hr
    clear hr
    unfold execOp
    go_simp
  simp only [Act.put, List.setIfInBounds_toArray, List.set_cons_succ, List.set_cons_zero]
  repeat
    refine relAt_detW rfl rfl ?_
    apply Exists.intro
    refine ⟨fun wr nr hJ => ?_, ?_⟩
    · clear hJ
      (go_simp; try go_bits)
      first | rfl | exact ⟨rfl, rfl⟩
    simp only [Act.put, List.setIfInBounds_toArray, List.set_cons_succ, List.set_cons_zero]
  refine rel_key (mty := 163) (kt := 5) (et := 146) 67 (by decide) rfl rfl (by kernel_rfl) rfl (by kernel_rfl) (by kernel_rfl) (fun wr wr' hr => ?_) ?_
  · have hr2 : (Instr.mapUpdate 163 (.map (some w.heap.size)) (.int .u8 67) (.pointer (some ⟨b, 5, none⟩))).run Try.prog wr = .ok () wr' := hr
    clear hr
    unfold execOp
    go_simp
  simp only [Act.put, List.setIfInBounds_toArray, List.set_cons_succ, List.set_cons_zero]
  repeat
    refine relAt_detW rfl rfl ?_
    apply Exists.intro
    refine ⟨fun wr nr hJ => ?_, ?_⟩
    · clear hJ
      (go_simp; try go_bits)
      first | rfl | exact ⟨rfl, rfl⟩
    simp only [Act.put, List.setIfInBounds_toArray, List.set_cons_succ, List.set_cons_zero]
  refine rel_key (mty := 163) (kt := 5) (et := 146) 78 (by decide) rfl rfl (by kernel_rfl) rfl (by kernel_rfl) (by kernel_rfl) (fun wr wr' hr => ?_) ?_
  · have hr2 : (Instr.mapUpdate 163 (.map (some w.heap.size)) (.int .u8 78) (.pointer (some ⟨b, 7, none⟩))).run Try.prog wr = .ok () wr' := hr
    clear hr
    unfold execOp
    go_simp
  simp only [Act.put, List.setIfInBounds_toArray, List.set_cons_succ, List.set_cons_zero]
  repeat
    refine relAt_detW rfl rfl ?_
    apply Exists.intro
    refine ⟨fun wr nr hJ => ?_, ?_⟩
    · clear hJ
      (go_simp; try go_bits)
      first | rfl | exact ⟨rfl, rfl⟩
    simp only [Act.put, List.setIfInBounds_toArray, List.set_cons_succ, List.set_cons_zero]
  refine rel_key (mty := 163) (kt := 5) (et := 146) 77 (by decide) rfl rfl (by kernel_rfl) rfl (by kernel_rfl) (by kernel_rfl) (fun wr wr' hr => ?_) ?_
  · have hr2 : (Instr.mapUpdate 163 (.map (some w.heap.size)) (.int .u8 77) (.pointer (some ⟨b, 8, none⟩))).run Try.prog wr = .ok () wr' := hr
    clear hr
    unfold execOp
    go_simp
  simp only [Act.put, List.setIfInBounds_toArray, List.set_cons_succ, List.set_cons_zero]
  refine rel_seen 67 16 rfl rfl (by kernel_rfl) rfl (fun wr => ?_) ?_
  · go_simp
  simp only [Act.put, List.setIfInBounds_toArray, List.set_cons_succ, List.set_cons_zero]
  repeat
    refine relAt_detW rfl rfl ?_
    apply Exists.intro
    refine ⟨fun wr nr hJ => ?_, ?_⟩
    · clear hJ
      (go_simp; try go_bits)
      first | rfl | exact ⟨rfl, rfl⟩
    simp only [Act.put, List.setIfInBounds_toArray, List.set_cons_succ, List.set_cons_zero]
  refine rel_look (mty := 163) (kt := 5) (et := 146) 67 25 rfl rfl (by kernel_rfl) rfl (by kernel_rfl) (by kernel_rfl) (fun wr hr => ?_) ?_
  · have hr2 : (Instr.lookup 163 (.map (some w.heap.size)) (.int .u8 67) false).run Try.prog wr = .ok (.pointer (some ⟨b, 5, none⟩)) wr := hr
    clear hr
    unfold execOp
    go_simp
    rfl
  simp only [Act.put, List.setIfInBounds_toArray, List.set_cons_succ, List.set_cons_zero]
  refine relAt_nilW (fun w1 hJ hF => ?_)
  clear hF
  have hE := hJ.2.1
  clear hJ
  go_wp2_with fail
  go_ret
  exact ⟨rfl, hE⟩

set_option maxHeartbeats 2000000 in
set_option maxRecDepth 100000 in
theorem get_78 (b : Nat) (w : World) :
    Calls Try.prog 97 #[.pointer (some ⟨b, 0, none⟩), .int .u8 78] w fun e w' => e = .returned (.pointer (some ⟨b, 7, none⟩)) ∧ Ext [] w w' := by
  go_enter Try.func97, Try.ntmps97
  go_wp2_with fail
  refine wp_region_relW 28 WG (JG w) (RG (fieldPf b) w.heap.size) (kinds [(0, sMap (fieldPf b) w.heap.size), (4, sKey (fieldPf b) w.heap.size 68), (8, sKey (fieldPf b) w.heap.size 65), (12, sKey (fieldPf b) w.heap.size 66), (16, sKey (fieldPf b) w.heap.size 67), (20, sKey (fieldPf b) w.heap.size 78), (24, sKey (fieldPf b) w.heap.size 77), (25, ⟨Unit, (), fun _ => .map (some w.heap.size), fun _ w' => KeyIn (fieldPf b) w.heap.size 78 w'⟩), (27, sFix (fieldPf b 78))]) (by kernel_rfl) (by kernel_rfl) JG.less ?_ 1027 (by kernel_rfl) ⟨by omega, (Ext.refl _ _).drew, fun _ => rfl⟩ ?_
  · repeat (first | exact Stays.nil | refine Stays.cons sMap.stays ?_ | refine Stays.cons sKey.stays ?_ | refine Stays.cons sFix.stays ?_ | refine Stays.cons (fun _ _ _ hR h => hR.2 _ h) ?_)
  simp only [List.take_succ_cons, List.take_zero, List.drop_succ_cons, List.drop_zero]
  refine rel_map rfl rfl (fun wr => ?_) ?_
  · go_simp
    rfl
  simp only [Act.put, List.setIfInBounds_toArray, List.set_cons_succ, List.set_cons_zero]
  repeat
    refine relAt_detW rfl rfl ?_
    apply Exists.intro
    refine ⟨fun wr nr hJ => ?_, ?_⟩
    · clear hJ
      (go_simp; try go_bits)
      first | rfl | exact ⟨rfl, rfl⟩
    simp only [Act.put, List.setIfInBounds_toArray, List.set_cons_succ, List.set_cons_zero]
  refine rel_key (mty := 163) (kt := 5) (et := 146) 68 (by decide) rfl rfl (by kernel_rfl) rfl (by kernel_rfl) (by kernel_rfl) (fun wr wr' hr => ?_) ?_
  · have hr2 : (Instr.mapUpdate 163 (.map (some w.heap.size)) (.int .u8 68) (.pointer (some ⟨b, 2, none⟩))).run Try.prog wr = .ok () wr' := hr
    clear hr
    unfold execOp
    go_simp
  simp only [Act.put, List.setIfInBounds_toArray, List.set_cons_succ, List.set_cons_zero]
  repeat
    refine relAt_detW rfl rfl ?_
    apply Exists.intro
    refine ⟨fun wr nr hJ => ?_, ?_⟩
    · clear hJ
      (go_simp; try go_bits)
      first | rfl | exact ⟨rfl, rfl⟩
    simp only [Act.put, List.setIfInBounds_toArray, List.set_cons_succ, List.set_cons_zero]
  refine rel_key (mty := 163) (kt := 5) (et := 146) 65 (by decide) rfl rfl (by kernel_rfl) rfl (by kernel_rfl) (by kernel_rfl) (fun wr wr' hr => ?_) ?_
  · have hr2 : (Instr.mapUpdate 163 (.map (some w.heap.size)) (.int .u8 65) (.pointer (some ⟨b, 3, none⟩))).run Try.prog wr = .ok () wr' := hr
    clear hr
    unfold execOp
    go_simp
  simp only [Act.put, List.setIfInBounds_toArray, List.set_cons_succ, List.set_cons_zero]
  repeat
    refine relAt_detW rfl rfl ?_
    apply Exists.intro
    refine ⟨fun wr nr hJ => ?_, ?_⟩
    · clear hJ
      (go_simp; try go_bits)
      first | rfl | exact ⟨rfl, rfl⟩
    simp only [Act.put, List.setIfInBounds_toArray, List.set_cons_succ, List.set_cons_zero]
  refine rel_key (mty := 163) (kt := 5) (et := 146) 66 (by decide) rfl rfl (by kernel_rfl) rfl (by kernel_rfl) (by kernel_rfl) (fun wr wr' hr => ?_) ?_
  · have hr2 : (Instr.mapUpdate 163 (.map (some w.heap.size)) (.int .u8 66) (.pointer (some ⟨b, 4, none⟩))).run Try.prog wr = .ok () wr' := hr
    clear hr
    unfold execOp
    go_simp
  simp only [Act.put, List.setIfInBounds_toArray, List.set_cons_succ, List.set_cons_zero]
  repeat
    refine relAt_detW rfl rfl ?_
    apply Exists.intro
    refine ⟨fun wr nr hJ => ?_, ?_⟩
    · clear hJ
      (go_simp; try go_bits)
      first | rfl | exact ⟨rfl, rfl⟩
    simp only [Act.put, List.setIfInBounds_toArray, List.set_cons_succ, List.set_cons_zero]
  refine rel_key (mty := 163) (kt := 5) (et := 146) 67 (by decide) rfl rfl (by kernel_rfl) rfl (by kernel_rfl) (by kernel_rfl) (fun wr wr' hr => ?_) ?_
  · have hr2 : (Instr.mapUpdate 163 (.map (some w.heap.size)) (.int .u8 67) (.pointer (some ⟨b, 5, none⟩))).run Try.prog wr = .ok () wr' := hr
    clear hr
    unfold execOp
    go_simp
  simp only [Act.put, List.setIfInBounds_toArray, List.set_cons_succ, List.set_cons_zero]
  repeat
    refine relAt_detW rfl rfl ?_
    apply Exists.intro
    refine ⟨fun wr nr hJ => ?_, ?_⟩
    · clear hJ
      (go_simp; try go_bits)
      first | rfl | exact ⟨rfl, rfl⟩
    simp only [Act.put, List.setIfInBounds_toArray, List.set_cons_succ, List.set_cons_zero]
  refine rel_key (mty := 163) (kt := 5) (et := 146) 78 (by decide) rfl rfl (by kernel_rfl) rfl (by kernel_rfl) (by kernel_rfl) (fun wr wr' hr => ?_) ?_
  · have hr2 : (Instr.mapUpdate 163 (.map (some w.heap.size)) (.int .u8 78) (.pointer (some ⟨b, 7, none⟩))).run Try.prog wr = .ok () wr' := hr
    clear hr
    unfold execOp
    go_simp
  simp only [Act.put, List.setIfInBounds_toArray, List.set_cons_succ, List.set_cons_zero]
  repeat
    refine relAt_detW rfl rfl ?_
    apply Exists.intro
    refine ⟨fun wr nr hJ => ?_, ?_⟩
    · clear hJ
      (go_simp; try go_bits)
      first | rfl | exact ⟨rfl, rfl⟩
    simp only [Act.put, List.setIfInBounds_toArray, List.set_cons_succ, List.set_cons_zero]
  refine rel_key (mty := 163) (kt := 5) (et := 146) 77 (by decide) rfl rfl (by kernel_rfl) rfl (by kernel_rfl) (by kernel_rfl) (fun wr wr' hr => ?_) ?_
  · have hr2 : (Instr.mapUpdate 163 (.map (some w.heap.size)) (.int .u8 77) (.pointer (some ⟨b, 8, none⟩))).run Try.prog wr = .ok () wr' := hr
    clear hr
    unfold execOp
    go_simp
  simp only [Act.put, List.setIfInBounds_toArray, List.set_cons_succ, List.set_cons_zero]
  refine rel_seen 78 20 rfl rfl (by kernel_rfl) rfl (fun wr => ?_) ?_
  · go_simp
  simp only [Act.put, List.setIfInBounds_toArray, List.set_cons_succ, List.set_cons_zero]
  repeat
    refine relAt_detW rfl rfl ?_
    apply Exists.intro
    refine ⟨fun wr nr hJ => ?_, ?_⟩
    · clear hJ
      (go_simp; try go_bits)
      first | rfl | exact ⟨rfl, rfl⟩
    simp only [Act.put, List.setIfInBounds_toArray, List.set_cons_succ, List.set_cons_zero]
  refine rel_look (mty := 163) (kt := 5) (et := 146) 78 25 rfl rfl (by kernel_rfl) rfl (by kernel_rfl) (by kernel_rfl) (fun wr hr => ?_) ?_
  · have hr2 : (Instr.lookup 163 (.map (some w.heap.size)) (.int .u8 78) false).run Try.prog wr = .ok (.pointer (some ⟨b, 7, none⟩)) wr := hr
    clear hr
    unfold execOp
    go_simp
    rfl
  simp only [Act.put, List.setIfInBounds_toArray, List.set_cons_succ, List.set_cons_zero]
  refine relAt_nilW (fun w1 hJ hF => ?_)
  clear hF
  have hE := hJ.2.1
  clear hJ
  go_wp2_with fail
  go_ret
  exact ⟨rfl, hE⟩

set_option maxHeartbeats 2000000 in
set_option maxRecDepth 100000 in
theorem get_77 (b : Nat) (w : World) :
    Calls Try.prog 97 #[.pointer (some ⟨b, 0, none⟩), .int .u8 77] w fun e w' => e = .returned (.pointer (some ⟨b, 8, none⟩)) ∧ Ext [] w w' := by
  go_enter Try.func97, Try.ntmps97
  go_wp2_with fail
  refine wp_region_relW 28 WG (JG w) (RG (fieldPf b) w.heap.size) (kinds [(0, sMap (fieldPf b) w.heap.size), (4, sKey (fieldPf b) w.heap.size 68), (8, sKey (fieldPf b) w.heap.size 65), (12, sKey (fieldPf b) w.heap.size 66), (16, sKey (fieldPf b) w.heap.size 67), (20, sKey (fieldPf b) w.heap.size 78), (24, sKey (fieldPf b) w.heap.size 77), (25, ⟨Unit, (), fun _ => .map (some w.heap.size), fun _ w' => KeyIn (fieldPf b) w.heap.size 77 w'⟩), (27, sFix (fieldPf b 77))]) (by kernel_rfl) (by kernel_rfl) JG.less ?_ 1027 (by kernel_rfl) ⟨by omega, (Ext.refl _ _).drew, fun _ => rfl⟩ ?_
  · repeat (first | exact Stays.nil | refine Stays.cons sMap.stays ?_ | refine Stays.cons sKey.stays ?_ | refine Stays.cons sFix.stays ?_ | refine Stays.cons (fun _ _ _ hR h => hR.2 _ h) ?_)
  simp only [List.take_succ_cons, List.take_zero, List.drop_succ_cons, List.drop_zero]
  refine rel_map rfl rfl (fun wr => ?_) ?_
  · go_simp
    rfl
  simp only [Act.put, List.setIfInBounds_toArray, List.set_cons_succ, List.set_cons_zero]
  repeat
    refine relAt_detW rfl rfl ?_
    apply Exists.intro
    refine ⟨fun wr nr hJ => ?_, ?_⟩
    · clear hJ
      (go_simp; try go_bits)
      first | rfl | exact ⟨rfl, rfl⟩
    simp only [Act.put, List.setIfInBounds_toArray, List.set_cons_succ, List.set_cons_zero]
  refine rel_key (mty := 163) (kt := 5) (et := 146) 68 (by decide) rfl rfl (by kernel_rfl) rfl (by kernel_rfl) (by kernel_rfl) (fun wr wr' hr => ?_) ?_
  · have hr2 : (Instr.mapUpdate 163 (.map (some w.heap.size)) (.int .u8 68) (.pointer (some ⟨b, 2, none⟩))).run Try.prog wr = .ok () wr' := hr
    clear hr
    unfold execOp
    go_simp
  simp only [Act.put, List.setIfInBounds_toArray, List.set_cons_succ, List.set_cons_zero]
  repeat
    refine relAt_detW rfl rfl ?_
    apply Exists.intro
    refine ⟨fun wr nr hJ => ?_, ?_⟩
    · clear hJ
      (go_simp; try go_bits)
      first | rfl | exact ⟨rfl, rfl⟩
    simp only [Act.put, List.setIfInBounds_toArray, List.set_cons_succ, List.set_cons_zero]
  refine rel_key (mty := 163) (kt := 5) (et := 146) 65 (by decide) rfl rfl (by kernel_rfl) rfl (by kernel_rfl) (by kernel_rfl) (fun wr wr' hr => ?_) ?_
  · have hr2 : (Instr.mapUpdate 163 (.map (some w.heap.size)) (.int .u8 65) (.pointer (some ⟨b, 3, none⟩))).run Try.prog wr = .ok () wr' := hr
    clear hr
    unfold execOp
    go_simp
  simp only [Act.put, List.setIfInBounds_toArray, List.set_cons_succ, List.set_cons_zero]
  repeat
    refine relAt_detW rfl rfl ?_
    apply Exists.intro
    refine ⟨fun wr nr hJ => ?_, ?_⟩
    · clear hJ
      (go_simp; try go_bits)
      first | rfl | exact ⟨rfl, rfl⟩
    simp only [Act.put, List.setIfInBounds_toArray, List.set_cons_succ, List.set_cons_zero]
  refine rel_key (mty := 163) (kt := 5) (et := 146) 66 (by decide) rfl rfl (by kernel_rfl) rfl (by kernel_rfl) (by kernel_rfl) (fun wr wr' hr => ?_) ?_
  · have hr2 : (Instr.mapUpdate 163 (.map (some w.heap.size)) (.int .u8 66) (.pointer (some ⟨b, 4, none⟩))).run Try.prog wr = .ok () wr' := hr
    clear hr
    unfold execOp
    go_simp
  simp only [Act.put, List.setIfInBounds_toArray, List.set_cons_succ, List.set_cons_zero]
  repeat
    refine relAt_detW rfl rfl ?_
    apply Exists.intro
    refine ⟨fun wr nr hJ => ?_, ?_⟩
    · clear hJ
      (go_simp; try go_bits)
      first | rfl | exact ⟨rfl, rfl⟩
    simp only [Act.put, List.setIfInBounds_toArray, List.set_cons_succ, List.set_cons_zero]
  refine rel_key (mty := 163) (kt := 5) (et := 146) 67 (by decide) rfl rfl (by kernel_rfl) rfl (by kernel_rfl) (by kernel_rfl) (fun wr wr' hr => ?_) ?_
  · have hr2 : (Instr.mapUpdate 163 (.map (some w.heap.size)) (.int .u8 67) (.pointer (some ⟨b, 5, none⟩))).run Try.prog wr = .ok () wr' := hr
    clear hr
    unfold execOp
    go_simp
  simp only [Act.put, List.setIfInBounds_toArray, List.set_cons_succ, List.set_cons_zero]
  repeat
    refine relAt_detW rfl rfl ?_
    apply Exists.intro
    refine ⟨fun wr nr hJ => ?_, ?_⟩
    · clear hJ
      (go_simp; try go_bits)
      first | rfl | exact ⟨rfl, rfl⟩
    simp only [Act.put, List.setIfInBounds_toArray, List.set_cons_succ, List.set_cons_zero]
  refine rel_key (mty := 163) (kt := 5) (et := 146) 78 (by decide) rfl rfl (by kernel_rfl) rfl (by kernel_rfl) (by kernel_rfl) (fun wr wr' hr => ?_) ?_
  · have hr2 : (Instr.mapUpdate 163 (.map (some w.heap.size)) (.int .u8 78) (.pointer (some ⟨b, 7, none⟩))).run Try.prog wr = .ok () wr' := hr
    clear hr
    unfold execOp
    go_simp
  simp only [Act.put, List.setIfInBounds_toArray, List.set_cons_succ, List.set_cons_zero]
  repeat
    refine relAt_detW rfl rfl ?_
    apply Exists.intro
    refine ⟨fun wr nr hJ => ?_, ?_⟩
    · clear hJ
      (go_simp; try go_bits)
      first | rfl | exact ⟨rfl, rfl⟩
    simp only [Act.put, List.setIfInBounds_toArray, List.set_cons_succ, List.set_cons_zero]
  refine rel_key (mty := 163) (kt := 5) (et := 146) 77 (by decide) rfl rfl (by kernel_rfl) rfl (by kernel_rfl) (by kernel_rfl) (fun wr wr' hr => ?_) ?_
  · have hr2 : (Instr.mapUpdate 163 (.map (some w.heap.size)) (.int .u8 77) (.pointer (some ⟨b, 8, none⟩))).run Try.prog wr = .ok () wr' := hr
    clear hr
    unfold execOp
    go_simp
  simp only [Act.put, List.setIfInBounds_toArray, List.set_cons_succ, List.set_cons_zero]
  refine rel_seen 77 24 rfl rfl (by kernel_rfl) rfl (fun wr => ?_) ?_
  · go_simp
  simp only [Act.put, List.setIfInBounds_toArray, List.set_cons_succ, List.set_cons_zero]
  repeat
    refine relAt_detW rfl rfl ?_
    apply Exists.intro
    refine ⟨fun wr nr hJ => ?_, ?_⟩
    · clear hJ
      (go_simp; try go_bits)
      first | rfl | exact ⟨rfl, rfl⟩
    simp only [Act.put, List.setIfInBounds_toArray, List.set_cons_succ, List.set_cons_zero]
  refine rel_look (mty := 163) (kt := 5) (et := 146) 77 25 rfl rfl (by kernel_rfl) rfl (by kernel_rfl) (by kernel_rfl) (fun wr hr => ?_) ?_
  · have hr2 : (Instr.lookup 163 (.map (some w.heap.size)) (.int .u8 77) false).run Try.prog wr = .ok (.pointer (some ⟨b, 8, none⟩)) wr := hr
    clear hr
    unfold execOp
    go_simp
    rfl
  simp only [Act.put, List.setIfInBounds_toArray, List.set_cons_succ, List.set_cons_zero]
  refine relAt_nilW (fun w1 hJ hF => ?_)
  clear hF
  have hE := hJ.2.1
  clear hJ
  go_wp2_with fail
  go_ret
  exact ⟨rfl, hE⟩

end Go.Proofs.Ytedabpldigcffaa
