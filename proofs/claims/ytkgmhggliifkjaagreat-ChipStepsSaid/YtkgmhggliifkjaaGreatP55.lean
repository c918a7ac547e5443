import Derived.Test.YtkgmhggliifkjaaGreatP54
import Derived.Test.YtkgmhggliifkjaaGreatP39
import Derived.Test.YtkgmhggliifkjaaGreatP47
import Derived.Test.YtkgmhggliifkjaaGreatP50
import Derived.Test.YtkgmhggliifkjaaGreatP52
namespace Go.Proofs.YtkgmhggliifkjaaGreat
open Go.RowKit Go.Proofs.Tryz
set_option linter.all false
set_option maxHeartbeats 8000000
set_option maxRecDepth 4000
attribute [local irreducible] Ax
structure Tm (w:World)(A:CA)(R:RA)(m:Mc)(xs:List Ins)(S:MS)(g bm:Nat):Prop where
 twin:Vx w A R m xs S g
 dis:∀b,A.kd b<40->40<=R.A.kd b
 top:∀b,w.heap.size<=b->40<=A.kd b/\40<=R.A.kd b
 lo:∀b,A.kd b<40\/R.A.kd b<40->g<=b
 gl:g<w.heap.size
 bml:bm<w.heap.size
 bma:40<=A.kd bm
 bmr:40<=R.A.kd bm
section
variable {w w':World} {A:CA} {R:RA} {m:Mc} {xs:List Ins} {S S':MS} {g bm:Nat}
theorem Tm.ext (h:Tm w A R m xs S g bm)(hE:Ext [g] w w'):Tm w' A R m xs S g bm:=
 ⟨h.twin.ext hE,h.dis,fun b hb=>h.top b (nt hE.size hb),h.lo,nl h.gl hE.size,nl h.bml hE.size,h.bma,h.bmr⟩
theorem Tm.o (h:Tm w A R m xs S g bm){b:Nat}(hb:b<w.heap.size)(h1:40<=A.kd b):∀T:List Nat,(∀x∈T,A.kd x<40)->b∉T:=fun T hT hm=>by have:=hT _ hm;omega
theorem Tm.chipStep (h:Tm w A R m xs S g bm)(hE:Aj A w w'){A':CA}(hC:Ag w' A' m xs S')(hc:A'.c=A.c)(hk:∀b,b<w.heap.size->A'.kd b=A.kd b){V:Prop}(hV:∀A2:CA,A2.c=A.c->Ag w' A2 m xs S'->Ak w' R m xs S->(∀b,A2.kd b<40->40<=R.A.kd b)->(∀b,w'.heap.size<=b->40<=A2.kd b/\40<=R.A.kd b)->(∀b,A2.kd b<40\/R.A.kd b<40->g<=b)->40<=A2.kd g->40<=A2.kd bm->V):V:=by
 obtain⟨T,hT,hTk⟩:=hE;have hs:=hT.size;have hgl:=h.gl;have hbl:=h.bml
 have key:∀b,(if b<w'.heap.size then A'.kd b else 40)<40->b<w'.heap.size/\((b<w.heap.size/\A.kd b<40)\/w.heap.size<=b):=fun b hb=>by
  by_cases h1:b<w'.heap.size
  ·rw[ijp h1] at hb;by_cases h2:b<w.heap.size
   ·rw[hk b h2] at hb;exact⟨h1,.inl ⟨h2,hb⟩⟩
   ·exact⟨h1,.inr (by omega)⟩
  ·rw[ijn h1] at hb;omega
 refine hV {A' with kd:=fun b=>if b<w'.heap.size then A'.kd b else 40 } hc (hC.rekd _ (fun b hb=>ijp hb)) (h.twin.ref.ext hT (fun x hx=>h.dis x (hTk x hx))) (fun b hb=>?_) (fun b hb=>?_) (fun b hb=>?_) ?_ ?_
 ·rcases(key b hb).2 with h1|h1
  ·exact h.dis b h1.2
  ·exact(h.top b h1).2
 ·exact⟨by show 40<=(if b<w'.heap.size then A'.kd b else 40);rw[ijn (by omega)];exact Nat.le_refl _,(h.top b (by omega)).2⟩
 ·rcases hb with hb|hb
  ·rcases(key b hb).2 with h1|h1
   ·exact h.lo b (.inl h1.2)
   ·omega
  ·exact h.lo b (.inr hb)
 ·show 40<=(if g<w'.heap.size then A'.kd g else 40)
  rw[ijp (by omega),hk g hgl];exact h.twin.ga
 ·show 40<=(if bm<w'.heap.size then A'.kd bm else 40)
  rw[ijp (by omega),hk bm hbl];exact h.bma
theorem Aee {w1:World}{A2:CA}(hg:g<w1.heap.size)(hbm:bm<w1.heap.size)(hC:Ag w1 A2 m xs S')(hd:∀b,A2.kd b<40->40<=R.A.kd b)(ht:∀b,w1.heap.size<=b->40<=A2.kd b/\40<=R.A.kd b)(hl:∀b,A2.kd b<40\/R.A.kd b<40->g<=b)(hga:40<=A2.kd g)(hba:40<=A2.kd bm)(hgr:40<=R.A.kd g)(hbr:40<=R.A.kd bm)
  (hE:Aj R.A w1 w') {R':RA} (hR:Ak w' R' m xs S') (hc:R'.A.c=R.A.c) (hk:∀b,b<w1.heap.size->R'.A.kd b=R.A.kd b):∃R2:RA,R2.A.c=R.A.c/\Tm w' A2 R2 m xs S' g bm:=by
 obtain⟨T,hT,hTk⟩:=hE;have hs:=hT.size
 have key:∀b,(if b<w'.heap.size then R'.A.kd b else 40)<40->b<w'.heap.size/\((b<w1.heap.size/\R.A.kd b<40)\/w1.heap.size<=b):=fun b hb=>by
  by_cases h1:b<w'.heap.size
  ·rw[ijp h1] at hb;by_cases h2:b<w1.heap.size
   ·rw[hk b h2] at hb;exact⟨h1,.inl ⟨h2,hb⟩⟩
   ·exact⟨h1,.inr (by omega)⟩
  ·rw[ijn h1] at hb;omega
 have hTA:∀x∈T,40<=A2.kd x:=fun x hx=>by
  have h1:=hTk x hx;rcases Nat.lt_or_ge (A2.kd x) 40 with h2|h2
  ·have:=hd x h2;omega
  ·exact h2
 refine⟨{R' with A:={R'.A with kd:=fun b=>if b<w'.heap.size then R'.A.kd b else 40 } },hc,⟨hC.ext hT hTA,hR.rekd _ (fun b hb=>ijp hb),hga,?_⟩,fun b hb=>?_,fun b hb=>?_,fun b hb=>?_,by omega,by omega,hba,?_⟩
 ·show 40<=(if g<w'.heap.size then R'.A.kd g else 40)
  rw[ijp (by omega),hk g hg];exact hgr
 ·show 40<=(if b<w'.heap.size then R'.A.kd b else 40)
  by_cases h1:b<w'.heap.size
  ·rw[ijp h1];by_cases h2:b<w1.heap.size
   ·rw[hk b h2];exact hd b hb
   ·have:=(ht b (by omega)).1;omega
  ·rw[ijn h1];exact Nat.le_refl _
 ·refine⟨(ht b (by omega)).1,?_⟩
  show 40<=(if b<w'.heap.size then R'.A.kd b else 40)
  rw[ijn (by omega)];exact Nat.le_refl _
 ·rcases hb with hb|hb
  ·exact hl b (.inl hb)
  ·rcases(key b hb).2 with h1|h1
   ·exact hl b (.inr h1.2)
   ·omega
 ·show 40<=(if bm<w'.heap.size then R'.A.kd bm else 40)
  rw[ijp (by omega),hk bm hbm];exact hbr
end
end Go.Proofs.YtkgmhggliifkjaaGreat
