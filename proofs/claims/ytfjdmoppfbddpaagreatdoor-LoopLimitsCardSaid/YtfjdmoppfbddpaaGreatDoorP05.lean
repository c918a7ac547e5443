import Derived.Test.YtfjdmoppfbddpaaGreatDoorP01
namespace Go.Proofs.YtfjdmoppfbddpaaGreatDoor
open Go.RowKit Go.Proofs.Tryz
set_option linter.all false
section
section
variable {P:Program} {ops:Array Oper} {p:Nat} {J:(Nat->Bool)->World->Prop} {R:Nat->World->World->Prop} {S:Nat->Option Spec}
def wpRelU (P:Program)(ops:Array Oper)(p:Nat)(J:(Nat->Bool)->World->Prop)(R:Nat->World->World->Prop)(S:Nat->Option Spec)(Q:Act->World->Prop):List (Nat×Oper)->Act->(Nat->World->Prop)->Prop
 | [],a,F=>∀w r,(∀j,j<ops.size->r j=decide (p<=j))->J r w->(∀i,F i w)->Q a w
 | (i,o) :: rest,a,F=>
  if Region.wanted o (yielded ops a.tmps) then
   match S i with
   | none=>∃u,(∀w r,Good ops i r->J r w->detAt P o a u w)/\wpRelU P ops p J R S Q rest (a.put o.dst u) F
   | some s=>(∀w r,Good ops i r->J r w->(∀e∈o.after,Region.binds .any e=true->F e.on w)->someAt P o a (fun w'=>J (off r i) w'/\R i w w') (fun v w'=>∃x,v=s.f x/\s.V x w') w)/\
     ∀x:s.α,wpRelU P ops p J R S Q rest (a.put o.dst (s.f x)) (upd F i (s.V x))
  else wpRelU P ops p J R S Q rest (a.put o.dst undef) F
def OneU (P:Program)(ops:Array Oper)(J:(Nat->Bool)->World->Prop)(R:Nat->World->World->Prop)(S:Nat->Option Spec)(i:Nat)(o:Oper)(a:Act)(F:Nat->World->Prop)(K:Act->(Nat->World->Prop)->Prop):Prop:=
 if Region.wanted o (yielded ops a.tmps) then
  match S i with
  | none=>∃u,(∀w r,Good ops i r->J r w->detAt P o a u w)/\K (a.put o.dst u) F
  | some s=>(∀w r,Good ops i r->J r w->(∀e∈o.after,Region.binds .any e=true->F e.on w)->someAt P o a (fun w'=>J (off r i) w'/\R i w w') (fun v w'=>∃x,v=s.f x/\s.V x w') w)/\
    ∀x:s.α,K (a.put o.dst (s.f x)) (upd F i (s.V x))
 else K (a.put o.dst undef) F
theorem wpRel_consU {Q:Act->World->Prop}{i:Nat}{o:Oper}{rest:List (Nat×Oper)}{a:Act}{F:Nat->World->Prop} :
  wpRelU P ops p J R S Q ((i,o) :: rest) a F=OneU P ops J R S i o a F (wpRelU P ops p J R S Q rest):=rfl
theorem One_swapU {i j:Nat}{oi oj:Oper}{a:Act}{F:Nat->World->Prop}{K:Act->(Nat->World->Prop)->Prop}(hij:i≠j)(hsi:∀cs b,oi.op≠.select cs b)(hsj:∀cs b,oj.op≠.select cs b)
  (hap:oj.apart ops oi=true) (hi:∀e∈oi.after,Region.binds .any e=true->e.on≠j) (hj:∀e∈oj.after,Region.binds .any e=true->e.on≠i)
  (hw:∃w r,Good ops i r/\J r w)
  (h:OneU P ops J R S j oj a F fun a' F'=>OneU P ops J R S i oi a' F' K):OneU P ops J R S i oi a F fun a' F'=>OneU P ops J R S j oj a' F' K:=by
 obtain⟨h1,h2,h3⟩:=Oper.apart_spec hap;have h2':∀d,oi.dst=some d->oj.dst≠some d:=fun d hd he=>h2 d he hd
 obtain⟨w0,k0,hg0,hw0⟩:=hw;have wi:∀v,Region.wanted oi (yielded ops (a.put oj.dst v).tmps)=Region.wanted oi (yielded ops a.tmps):=fun v=>wanted_put oi a oj.dst v h1
 have wj:∀v,Region.wanted oj (yielded ops (a.put oi.dst v).tmps)=Region.wanted oj (yielded ops a.tmps):=fun v=>wanted_put oj a oi.dst v h3
 unfold OneU at h⊢;simp only[wi,wj] at h⊢;by_cases cj:Region.wanted oj (yielded ops a.tmps)=true
 ·simp only[cj,if_true] at h⊢;by_cases ci:Region.wanted oi (yielded ops a.tmps)=true
  ·simp only[ci,if_true] at h⊢;cases hSi:S i with
   | none=>
    cases hSj:S j with
    | none=>
     simp only[hSi,hSj] at h⊢;obtain⟨u,hu,v,hv,hK⟩:=h;refine⟨v,fun w k hg hJ=>(detAt_put (ops:=ops) hsi h1).1 (hv w k hg hJ),u,fun w k hg hJ=>(detAt_put (ops:=ops) hsj h3).2 (hu w k hg hJ),?_⟩
     rw[Act.put_comm a v u h2'];exact hK
    | some s=>
     simp only[hSi,hSj] at h⊢;obtain⟨hu,hx⟩:=h;obtain⟨v,hv,_⟩:=hx s.d;refine⟨v,fun w k hg hJ=>(detAt_put (ops:=ops) hsi h1).1 (hv w k hg hJ),fun w k hg hJ hF=>(someAt_put (ops:=ops) hsj h3).2 (hu w k hg hJ hF),fun x=>?_⟩
     obtain⟨v',hv',hK⟩:=hx x;have:v'=v:=detAt_unique ((detAt_put (ops:=ops) hsi h1).1 (hv' w0 k0 hg0 hw0)) ((detAt_put (ops:=ops) hsi h1).1 (hv w0 k0 hg0 hw0));subst this;rw[Act.put_comm a _ _ h2'];exact hK
   | some t=>
    cases hSj:S j with
    | none=>
     simp only[hSi,hSj] at h⊢;obtain⟨u,hu,hv,hK⟩:=h;refine⟨fun w k hg hJ hF=>(someAt_put (ops:=ops) hsi h1).1 (hv w k hg hJ hF),fun y=>⟨u,fun w k hg hJ=>(detAt_put (ops:=ops) hsj h3).2 (hu w k hg hJ),?_⟩⟩
     rw[Act.put_comm a _ _ h2'];exact hK y
    | some s=>
     simp only[hSi,hSj] at h⊢;obtain⟨hu,hx⟩:=h;refine⟨fun w k hg hJ hF=>(someAt_put (ops:=ops) hsi h1).1 ((hx s.d).1 w k hg hJ (fun e he hb=>by have:=hi e he hb;simp only[upd,if_neg this];exact hF e he hb)),fun y=>⟨fun w k hg hJ hF=>(someAt_put (ops:=ops) hsj h3).2 (hu w k hg hJ (fun e he hb=>by have h0:=hF e he hb;simp only[upd,if_neg (hj e he hb)] at h0;exact h0)),fun x=>?_⟩⟩
     rw[Act.put_comm a _ _ h2',upd_comm hij];exact(hx x).2 y
  ·have ci':Region.wanted oi (yielded ops a.tmps)=false:=by simpa using ci
   simp only[ci',Bool.false_eq_true,if_false] at h⊢;cases hSj:S j with
   | none=>
    simp only[hSj] at h⊢;obtain⟨u,hu,hK⟩:=h;refine⟨u,fun w k hg hJ=>(detAt_put (ops:=ops) hsj h3).2 (hu w k hg hJ),?_⟩
    rw[Act.put_comm a _ _ h2'];exact hK
   | some s=>
    simp only[hSj] at h⊢;obtain⟨hu,hx⟩:=h;refine⟨fun w k hg hJ hF=>(someAt_put (ops:=ops) hsj h3).2 (hu w k hg hJ hF),fun x=>?_⟩
    rw[Act.put_comm a _ _ h2'];exact hx x
 ·have cj':Region.wanted oj (yielded ops a.tmps)=false:=by simpa using cj
  simp only[cj',Bool.false_eq_true,if_false] at h⊢;by_cases ci:Region.wanted oi (yielded ops a.tmps)=true
  ·simp only[ci,if_true] at h⊢;cases hSi:S i with
   | none=>
    simp only[hSi] at h⊢;obtain⟨v,hv,hK⟩:=h;refine⟨v,fun w k hg hJ=>(detAt_put (ops:=ops) hsi h1).1 (hv w k hg hJ),?_⟩
    rw[Act.put_comm a _ _ h2'];exact hK
   | some t=>
    simp only[hSi] at h⊢;obtain⟨hv,hK⟩:=h;refine⟨fun w k hg hJ hF=>(someAt_put (ops:=ops) hsi h1).1 (hv w k hg hJ hF),fun y=>?_⟩
    rw[Act.put_comm a _ _ h2'];exact hK y
  ·have ci':Region.wanted oi (yielded ops a.tmps)=false:=by simpa using ci
   simp only[ci',Bool.false_eq_true,if_false] at h⊢;rw[Act.put_comm a _ _ h2'];exact h
theorem One_monoU {i:Nat}{o:Oper}{a:Act}{F:Nat->World->Prop}{K K':Act->(Nat->World->Prop)->Prop}(hK:∀a F,K a F->K' a F)(h:OneU P ops J R S i o a F K):OneU P ops J R S i o a F K':=by
 unfold OneU at *;split
 ·rename_i c
  simp only[c,if_true] at h;cases hS:S i with
  | none=>simp only[hS] at h⊢;exact⟨h.choose,h.choose_spec.1,hK _ _ h.choose_spec.2⟩
  | some s=>simp only[hS] at h⊢;exact⟨h.1,fun x=>hK _ _ (h.2 x)⟩
 ·rename_i c
  simp only[c] at h;exact hK _ _ h
theorem wpRel_pullU {Q:Act->World->Prop}{i:Nat}{oi:Oper}(hw:∃w r,Good ops i r/\J r w){l2:List (Nat×Oper)}(hsi:∀cs b,oi.op≠.select cs b) :
  ∀(l1:List (Nat×Oper)) (a:Act) (F:Nat->World->Prop),
   (∀j oj,(j,oj)∈l1->i≠j/\(∀cs b,oj.op≠.select cs b)/\oj.apart ops oi=true/\(∀e∈oi.after,Region.binds .any e=true->e.on≠j)/\(∀e∈oj.after,Region.binds .any e=true->e.on≠i))->
   wpRelU P ops p J R S Q (l1 ++ (i,oi) :: l2) a F->OneU P ops J R S i oi a F (wpRelU P ops p J R S Q (l1 ++ l2))
 | [],_,_,_,h=>h
 | (j,oj) :: l1,a,F,hl,h=>by
  obtain⟨h1,h2,h3,h4,h5⟩:=hl j oj (by simp);rw[List.cons_append,wpRel_consU] at h;have h':=One_monoU (fun a' F' hh=>wpRel_pullU hw hsi l1 a' F' (fun k ok hk=>hl k ok (by simp[hk])) hh) h;exact One_swapU h1 hsi h2 h3 h4 h5 hw h'
theorem wpAny_of_relU {p m:Nat}{Q:Act->World->Prop}{Q':Exit->Act->World->Prop}(hB:relB ops p=true)
  (hQ:∀listed a w,listed.size=ops.size->(∀j,j<ops.size->(listed.getD j true=false ↔ p<=j))->Shut ops listed->Q a w->wpAny P .any ops Q' m listed a w)
  (hJ:∀i r w,(S i=none\/∃oi,ops[i]? = some oi/\oi.guard≠none)->Good ops i r->J r w->J (off r i) w) (hS:∀i s j,S i=some s->j≠i->∀x w w',R j w w'->s.V x w->s.V x w') :
  ∀(n:Nat) (l:List (Nat×Oper)) (listed:Array Bool) (a:Act) (w:World) (F:Nat->World->Prop),l.length=n->listed.size=ops.size->
   (∀j oj,(j,oj)∈l ↔ ops[j]? = some oj/\j<p/\listed.getD j true=false)->(∀j,j<ops.size->p<=j->listed.getD j true=false)->(l.map (·.1)).Pairwise (· < ·)->
   (∀i j w w',i≠j->R i w w'->F j w->F j w')->(∀j,F j w)->J (rem listed) w->Shut ops listed->wpRelU P ops p J R S Q l a F->wpAny P .any ops Q' (n+m) listed a w:=by
 have hns:=fun j o cs b=>relB_sel (ops:=ops) hB j o cs b
 have hle:=relB_le hB;intro n
 induction n with
 | zero=>
  intro l listed a w F hl hsz hmem htl hsort hst hF hj hsh h;have hl0:l=[]:=List.eq_nil_of_length_eq_zero hl;subst hl0;rw[Nat.zero_add]
  have hiff:∀j,j<ops.size->(listed.getD j true=false ↔ p<=j):=fun j hj'=>⟨fun h0=>by
   rcases Nat.lt_or_ge j p with hlt|hge
   ·have:=(hmem j _).2 ⟨Array.getElem?_eq_getElem hj',hlt,h0⟩;simp at this
   ·exact hge,htl j hj'⟩
  refine hQ _ _ _ hsz hiff hsh (h w (rem listed) (fun j hj'=>?_) hj hF)
  unfold rem;cases hc:listed.getD j true
  ·simp[(hiff j hj').1 hc]
  ·have:¬p<=j:=fun hp=>by rw[(hiff j hj').2 hp] at hc;cases hc
   simp[this]
 | succ n ih=>
  intro l listed a w F hl hsz hmem htl hsort hst hF hj hsh h
  have hfirst:∃i oi l',l=(i,oi) :: l':=by
   match l,hl with
   | (i,oi) :: l',_=>exact⟨i,oi,l',rfl⟩
  rw[show n+1+m=(n+m)+1 by omega];refine⟨fun hr=>?_,fun i hi=>?_⟩
  ·
   exfalso
   obtain⟨i,oi,l',rfl⟩:=hfirst;obtain⟨hoi,hip,hun⟩:=(hmem i oi).1 (by simp)
   have:i∈Region.ready .any ops listed:=by
    refine mem_ready.2 ⟨hun,oi,hoi,fun e he hb=>?_⟩
    have hlt:=(relB_spec hB hoi).1 e he hb;have hio:i<ops.size:=(Array.getElem?_eq_some_iff.1 hoi).1;have heo:ops[e.on]? = some (ops[e.on]'(by omega)):=Array.getElem?_eq_getElem (by omega);refine getD_true_of (by omega) fun hg=>?_
    have hm:=(hmem e.on _).2 ⟨heo,by omega,hg⟩;rcases List.mem_cons.1 hm with h1|h1
    ·have:=congrArg Prod.fst h1;simp at this;omega
    ·simp only[List.map_cons,List.pairwise_cons] at hsort;have:=hsort.1 e.on (List.mem_map.2 ⟨_,h1,rfl⟩);omega
   rw[hr] at this;cases this
  ·obtain⟨hun,oi,hoi,hall⟩:=mem_ready.1 hi;have hio:i<ops.size:=(Array.getElem?_eq_some_iff.1 hoi).1
   have hnolist:∀j,j<ops.size->listed.getD j true=false->∀e∈oi.after,Region.binds .any e=true->e.on≠j:=fun j hj' hjf e he hb heq=>by
    have h1:=hall e he hb;rw[heq] at h1;exact getD_false_of (by omega) h1 hjf
   have hip:i<p:=by
    rcases Nat.lt_or_ge i p with hlt|hge
    ·exact hlt
    ·exfalso
     obtain⟨j,oj,l',rfl⟩:=hfirst;obtain⟨hoj,hjp,hjf⟩:=(hmem j oj).1 (by simp);exact getD_false_of (by omega) (all_listed hB hsh hoi hge hall _ j (Nat.le_refl _) (by omega)) hjf
   have hin:=(hmem i oi).2 ⟨hoi,hip,hun⟩;obtain⟨l1,l2,rfl⟩:=List.append_of_mem hin
   have hnd:∀j oj,(j,oj)∈l1 ++ l2->j≠i:=by
    intro j oj hj' he;subst he;rw[List.map_append,List.map_cons,List.pairwise_append] at hsort;obtain⟨_,s2,s3⟩:=hsort;rcases List.mem_append.1 hj' with h1|h1
    ·have:=s3 j (List.mem_map.2 ⟨_,h1,rfl⟩) j (by simp);omega
    ·have:=(List.pairwise_cons.1 s2).1 j (List.mem_map.2 ⟨_,h1,rfl⟩);omega
   have hmem':∀j oj,(j,oj)∈l1 ++ l2 ↔ ops[j]? = some oj/\j<p/\(listed.setIfInBounds i true).getD j true=false:=by
    intro j oj;by_cases hji:j=i
    ·subst hji;refine⟨fun h'=>absurd rfl (hnd _ _ h'),fun h'=>?_⟩
     have hlt:j<listed.size:=by omega
     simp[hlt] at h'
    ·rw[getD_set_ne true (Ne.symm hji),<-hmem j oj];simp[hji]
   have htl':∀j,j<ops.size->p<=j->(listed.setIfInBounds i true).getD j true=false:=fun j hj' hpj=>by
    rw[getD_set_ne true (by omega)];exact htl j hj' hpj
   have hsort':((l1 ++ l2).map (·.1)).Pairwise (· < ·):=by
    refine List.Pairwise.sublist ?_ hsort
    exact List.Sublist.map _ (List.Sublist.append (List.Sublist.refl l1) (List.sublist_cons_self _ _))
   have hgood:Good ops i (rem listed):=by
    refine⟨by simp[rem,hun],fun o ho e he hb=>?_,fun j oj ho hr e he hb=>?_⟩
    ·rw[hoi] at ho;cases ho;have hlt:=(relB_spec hB hoi).1 e he hb;have:=getD_false_iff (i:=e.on) (by omega) (hall e he hb);simp[rem,this]
    ·have hlt:=(relB_spec hB ho).1 e he hb;have hjo:j<ops.size:=(Array.getElem?_eq_some_iff.1 ho).1
     have hjl:listed.getD j false=true:=by
      have h1:listed.getD j true=true:=by simpa[rem] using hr
      exact getD_true_flip (by omega) h1
     have:=getD_false_iff (i:=e.on) (by omega) (hsh j oj ho hjl e he hb);simp[rem,this]
   have hset:rem (listed.setIfInBounds i true)=off (rem listed) i:=by
    funext j
    by_cases hji:j=i
    ·subst hji;have:j<listed.size:=by omega
     simp[rem,off,this]
    ·simp[rem,off,getD_set_ne true (Ne.symm hji),hji]
   have hpull:=wpRel_pullU (P:=P) (ops:=ops) (p:=p) (J:=J) (R:=R) (S:=S) ⟨w,_,hgood,hj⟩ (fun cs b=>hns i oi cs b hoi) l1 a F (fun j oj hjl=>by
    have hjm:=(hmem j oj).1 (List.mem_append_left _ hjl);have hjo:j<ops.size:=(Array.getElem?_eq_some_iff.1 hjm.1).1
    have hlt:j<i:=by
     rw[List.map_append,List.map_cons,List.pairwise_append] at hsort;exact hsort.2.2 j (List.mem_map.2 ⟨_,hjl,rfl⟩) i (by simp)
    have hno:=hnolist j hjo hjm.2.2;exact⟨by omega,fun cs b=>hns j oj cs b hjm.1,(relB_spec hB hoi).2.1 hip j oj hlt hjm.1 hno,hno,fun e he hb=>by have:=(relB_spec hB hjm.1).1 e he hb;omega⟩) h
   have hlen:(l1 ++ l2).length=n:=by simp at hl⊢;omega
   unfold wpOp;rw[hoi];show if Region.wanted oi (yielded ops a.tmps)=true then _ else _
   unfold OneU at hpull;split
   ·rename_i hwd
    left
    simp only[hwd,if_true] at hpull;cases hSi:S i with
    | none=>
     simp only[hSi] at hpull;obtain⟨u,hu,hK⟩:=hpull;exact wp_of_detAt (hu w _ hgood hj) (ih (l1 ++ l2) _ _ w F hlen (by simpa using hsz) hmem' htl' hsort' hst hF (hset ▸ hJ i _ w (.inl hSi) hgood hj) (hsh.set hoi hall) hK)
    | some s=>
     simp only[hSi] at hpull;refine wp_of_someAt (hpull.1 w _ hgood hj (fun e he hb=>hF _)) fun v w' hv hj'=>?_
     obtain⟨x,rfl,hx⟩:=hv;refine ih (l1 ++ l2) _ _ w' (upd F i (s.V x)) hlen (by simpa using hsz) hmem' htl' hsort' ?_ ?_ (hset ▸ hj'.1) (hsh.set hoi hall) (hpull.2 x)
     ·intro i' j w1 w2 hne hr hf;unfold upd at hf⊢;split
      ·rename_i hh;simp only[hh,if_true] at hf;exact hS i s i' hSi (by rw[<-hh];exact hne) x _ _ hr hf
      ·rename_i hh;simp only[hh,if_false] at hf;exact hst _ _ _ _ hne hr hf
     ·intro j;unfold upd;split
      ·exact hx
      ·rename_i hh;exact hst i j _ _ (fun e=>hh e.symm) hj'.2 (hF j)
   ·rename_i hwd
    simp only[hwd] at hpull;exact ih (l1 ++ l2) _ _ w F hlen (by simpa using hsz) hmem' htl' hsort' hst hF (hset ▸ hJ i _ w (.inr ⟨oi,hoi,fun hg=>hwd (by simp[Region.wanted,hg])⟩) hgood hj) (hsh.set hoi hall) hpull
def relAtU (P:Program)(ops:Array Oper)(p:Nat)(J:(Nat->Bool)->World->Prop)(R:Nat->World->World->Prop)(S:Nat->Option Spec)(Q:Act->World->Prop):Nat->List Oper->Act->(Nat->World->Prop)->Prop
 | _,[],a,F=>∀w r,(∀j,j<ops.size->r j=decide (p<=j))->J r w->(∀i,F i w)->Q a w
 | k,o :: rest,a,F=>OneU P ops J R S k o a F (relAtU P ops p J R S Q (k+1) rest)
theorem relAt_eqU {Q:Act->World->Prop}:∀(l:List Oper) (k:Nat) (a:Act) (F:Nat->World->Prop),relAtU P ops p J R S Q k l a F->wpRelU P ops p J R S Q (places k l) a F
 | [],_,_,_,h=>h
 | _ :: l,k,a,F,h=>by
  unfold places;rw[wpRel_consU];exact One_monoU (fun a' F' hh=>relAt_eqU l (k+1) a' F' hh) h
theorem wp_region_relU {id:Nat}{Q:Exit->Act->World->Prop}{a:Act}{w:World}{l:List Oper}(p:Nat)(J:(Nat->Bool)->World->Prop)(R:Nat->World->World->Prop)(S:Nat->Option Spec)(hm:P.follows .mixedOrders=true)(hB:relB l.toArray p=true)
  (hJ:∀i r w,(S i=none\/∃oi,l.toArray[i]? = some oi/\oi.guard≠none)->Good l.toArray i r->J r w->J (off r i) w) (hS:∀i s j,S i=some s->j≠i->∀x w w',R j w w'->s.V x w->s.V x w') (h0:J (fun j=>decide (j<l.length)) w.drew)
  (h:relAtU P l.toArray p J R S (fun a w=>wpList P l.toArray Q (l.drop p) a w) 0 (l.take p) a (fun _ _=>True)):(Code.region id l.toArray true).wp P Q a w:=by
 have hle:p<=l.length:=by simpa using relB_le hB
 have hlen:(l.take p).length=p:=by simp;omega
 have hsz:l.toArray.size=p+(l.drop p).length:=by simp;omega
 refine wp_region_any hm ?_
 rw[hsz];refine wpAny_of_relU (m:=(l.drop p).length) (Q:=fun a w=>wpList P l.toArray Q (l.drop p) a w) hB ?_ hJ hS p (places 0 (l.take p)) _ a _ (fun _ _=>True) (by rw[places_length,hlen]) (by simp;omega) ?_ ?_ (places_sorted _ _) (by simp) (by simp) ?_ ?_ (relAt_eqU _ _ _ _ h)
 ·intro listed a' w' hs hun hsh h';exact wpAny_tail hB (l.drop p) p listed a' w' (Nat.le_refl _) hs hsz.symm (fun j=>by simp) hun hsh h'
 ·intro j oj;rw[mem_places];have hd:p+(l.drop p).length=l.length:=by simp;omega
  have hr:∀j,(Array.replicate (p+(l.drop p).length) false).getD j true=false ↔ j<l.length:=fun j=>by
   rw[hd];by_cases hj:j<l.length<;>simp[hj]
  rw[hr];simp only[Nat.zero_le,true_and,Nat.sub_zero,List.getElem?_toArray];constructor
  ·intro h1;rw[List.getElem?_take] at h1;split at h1
   ·rename_i hjp
    exact⟨h1,hjp,by have:=(List.getElem?_eq_some_iff.1 h1).1;omega⟩
   ·cases h1
  ·rintro⟨h1,h2,_⟩;rw[List.getElem?_take,if_pos h2];exact h1
 ·intro j hj _;have hd:p+(l.drop p).length=l.length:=by simp;omega
  have hj':j<l.length:=by simpa using hj
  rw[hd];simp[hj']
 ·have hrm:rem (Array.replicate (p+(l.drop p).length) false)=fun j=>decide (j<l.length):=by
   have hd:p+(l.drop p).length=l.length:=by simp;omega
   rw[hd];funext j
   by_cases hj:j<l.length<;>simp[rem,hj]
  rw[hrm];exact h0
 ·intro k ok _ hk;simp[Array.getD_eq_getD_getElem?,Array.getElem?_replicate] at hk;split at hk<;>simp at hk
section
variable {Q:Act->World->Prop} {k:Nat} {o:Oper} {rest:List Oper} {a:Act} {F:Nat->World->Prop}
theorem relAt_nilU (h:∀w r,(∀j,j<ops.size->r j=decide (p<=j))->J r w->(∀i,F i w)->Q a w):relAtU P ops p J R S Q k [] a F:=h
theorem relAt_detU (hS:S k=none)(hw:Region.wanted o (yielded ops a.tmps)=true)(h:∃u,(∀w n,Good ops k n->J n w->(execOp a.eval o).run P w=.ok (.value u) w)/\relAtU P ops p J R S Q (k+1) rest (a.put o.dst u) F) :
  relAtU P ops p J R S Q k (o :: rest) a F:=by
 obtain⟨u,hu,h⟩:=h;unfold relAtU OneU;rw[if_pos hw,hS];exact⟨u,fun w n hg hJ=>by unfold detAt;rw[hu w n hg hJ];exact⟨rfl,rfl⟩,h⟩
theorem dEU {u:Value}(h2:∀w n,Good ops k n->J n w->(execOp a.eval o).run P w=.ok (.value u) w)(h3:relAtU P ops p J R S Q (k+1) rest (a.put o.dst u) F)(hS:S k=none:=by exact rfl)(hw:Region.wanted o (yielded ops a.tmps)=true:=by exact rfl) :
  relAtU P ops p J R S Q k (o :: rest) a F:=relAt_detU hS hw ⟨u,h2,h3⟩
theorem relAt_noneU (hS:S k=none)(hw:Region.wanted o (yielded ops a.tmps)=true)(hu:∀w n,Good ops k n->J n w->(execOp a.eval o).run P w=.ok .skip w)(h:relAtU P ops p J R S Q (k+1) rest (a.put o.dst undef) F) :
  relAtU P ops p J R S Q k (o :: rest) a F:=by
 unfold relAtU OneU;rw[if_pos hw,hS];exact⟨undef,fun w n hg hJ=>by unfold detAt;rw[hu w n hg hJ];exact⟨rfl,rfl⟩,h⟩
theorem relAt_skipU (hw:Region.wanted o (yielded ops a.tmps)=false)(h:relAtU P ops p J R S Q (k+1) rest (a.put o.dst undef) F):relAtU P ops p J R S Q k (o :: rest) a F:=by
 unfold relAtU OneU;rw[if_neg (by simp[hw])];exact h
theorem relAt_valueU (s:Spec)(hS:S k=some s)(hw:Region.wanted o (yielded ops a.tmps)=true)
  (hu:∀w n,Good ops k n->J n w->(∀e∈o.after,Region.binds .any e=true->F e.on w)->∃x w',(execOp a.eval o).run P w=.ok (.value (s.f x)) w'/\s.V x w'/\J (off n k) w'/\R k w w')
  (h:∀x:s.α,relAtU P ops p J R S Q (k+1) rest (a.put o.dst (s.f x)) (upd F k (s.V x))):relAtU P ops p J R S Q k (o :: rest) a F:=by
 unfold relAtU OneU;rw[if_pos hw,hS];refine⟨fun w n hg hJ hF=>?_,h⟩
 obtain⟨x,w',hr,hV,hJ',hR⟩:=hu w n hg hJ hF;unfold someAt;rw[hr];exact⟨⟨x,rfl,hV⟩,hJ',hR⟩
theorem relAt_callU (s:Spec)(hS:S k=some s)(hw:Region.wanted o (yielded ops a.tmps)=true)
  (hh:∃(f:FuncId) (args:Array Value),(∀w,(execOp a.eval o).run P w=.ok (.enter f args) w)/\
   (∀w n,Good ops k n->J n w->(∀e∈o.after,Region.binds .any e=true->F e.on w)->Calls P f args w fun e w'=>∃x,e=.returned (s.f x)/\s.V x w'/\J (off n k) w'/\R k w w'))
  (h:∀x:s.α,relAtU P ops p J R S Q (k+1) rest (a.put o.dst (s.f x)) (upd F k (s.V x))):relAtU P ops p J R S Q k (o :: rest) a F:=by
 obtain⟨f,args,hr,hu⟩:=hh;unfold relAtU OneU;rw[if_pos hw,hS];refine⟨fun w n hg hJ hF=>?_,h⟩
 unfold someAt;rw[hr w];exact(hu w n hg hJ hF).mono fun e w' ⟨x,he,hV,hJ',hR⟩=>⟨s.f x,he,⟨x,rfl,hV⟩,hJ',hR⟩
theorem relAt_sayU (s:Spec)(hS:S k=some s)(hw:Region.wanted o (yielded ops a.tmps)=true)(hf:∀x,s.f x=undef)
  (hu:∀w n,Good ops k n->J n w->(∀e∈o.after,Region.binds .any e=true->F e.on w)->∃x w',(execOp a.eval o).run P w=.ok .skip w'/\s.V x w'/\J (off n k) w'/\R k w w')
  (h:∀x:s.α,relAtU P ops p J R S Q (k+1) rest (a.put o.dst undef) (upd F k (s.V x))):relAtU P ops p J R S Q k (o :: rest) a F:=by
 unfold relAtU OneU;rw[if_pos hw,hS];refine⟨fun w n hg hJ hF=>?_,fun x=>by rw[hf];exact h x⟩
 obtain⟨x,w',hr,hV,hJ',hR⟩:=hu w n hg hJ hF;unfold someAt;rw[hr];exact⟨⟨x,(hf x).symm,hV⟩,hJ',hR⟩
theorem relAt_storeU (hS:S k=some ⟨Unit,(),fun _=>undef,fun _ _=>True⟩)(hw:Region.wanted o (yielded ops a.tmps)=true)
  (hu:∀w n,Good ops k n->J n w->(∀e∈o.after,Region.binds .any e=true->F e.on w)->∃w',(execOp a.eval o).run P w=.ok .skip w'/\J (off n k) w'/\R k w w')
  (h:relAtU P ops p J R S Q (k+1) rest (a.put o.dst undef) (upd F k (fun _=>True))):relAtU P ops p J R S Q k (o :: rest) a F:=by
 unfold relAtU OneU;rw[if_pos hw,hS];refine⟨fun w n hg hJ hF=>?_,fun _=>h⟩
 obtain⟨w',hr,hJ',hR⟩:=hu w n hg hJ hF;unfold someAt;rw[hr];exact⟨⟨(),rfl,trivial⟩,hJ',hR⟩
end
end
end
section
def wsum (W:Nat->Nat)(r:Nat->Bool):Nat->Nat
 | 0=>0
 | p+1=>wsum W r p+(if r p then W p else 0)
theorem wsum_same {W:Nat->Nat}{r r':Nat->Bool}:∀p,(∀j,j<p->r j=r' j)->wsum W r p=wsum W r' p
 | 0,_=>rfl
 | p+1,h=>by unfold wsum;rw[wsum_same p (fun j hj=>h j (by omega)),h p (by omega)]
theorem wsum_none {W:Nat->Nat}{r:Nat->Bool}:∀p,(∀j,j<p->r j=false)->wsum W r p=0
 | 0,_=>rfl
 | p+1,h=>by unfold wsum;rw[wsum_none p (fun j hj=>h j (by omega)),h p (by omega)];rfl
theorem wsum_off {W:Nat->Nat}{r:Nat->Bool}{k:Nat}(hr:r k=true):∀p,k<p->wsum W r p=wsum W (off r k) p+W k
 | p+1,h=>by
  unfold wsum;by_cases hp:p=k
  ·subst hp;rw[hr,wsum_same (r':=off r p) p (fun j hj=>by simp[off];intro h1 h2;omega)];simp[off]
  ·rw[wsum_off hr p (by omega),show off r k p=r p by simp[off,hp]];omega
section
variable {P:Program} {ops:Array Oper} {W:Nat->Nat} {J:Nat->World->Prop} {R:World->World->Prop} {S:Nat->Option Spec}
def relAtW (P:Program)(ops:Array Oper)(W:Nat->Nat)(J:Nat->World->Prop)(R:World->World->Prop)(S:Nat->Option Spec)(Q:Act->World->Prop)(k:Nat)(l:List Oper)(a:Act)(F:Nat->World->Prop):Prop:=
 k+l.length<=ops.size->relAtU P ops (k+l.length) (fun r w=>J (wsum W r (k+l.length)) w) (fun _=>R) S Q k l a F
theorem wp_region_relW {id:Nat}{Q:Exit->Act->World->Prop}{a:Act}{w:World}{l:List Oper}(p:Nat)(W:Nat->Nat)(J:Nat->World->Prop)(R:World->World->Prop)(S:Nat->Option Spec)(hm:P.follows .mixedOrders=true)(hB:relB l.toArray p=true)
  (hJ:∀i k w,J (k+W i) w->J k w) (hS:∀i s,S i=some s->∀x w w',R w w'->s.V x w->s.V x w') (N:Nat) (hN:wsum W (fun _=>true) p=N) (h0:J N w.drew)
  (h:relAtW P l.toArray W J R S (fun a w=>wpList P l.toArray Q (l.drop p) a w) 0 (l.take p) a (fun _ _=>True)):(Code.region id l.toArray true).wp P Q a w:=by
 have hle:p<=l.length:=by simpa using relB_le hB
 have hlen:0+(l.take p).length=p:=by simp;omega
 have h1:=h (by rw[hlen];simpa using hle);rw[hlen] at h1;refine wp_region_relU p (fun r w=>J (wsum W r p) w) (fun _=>R) S hm hB (fun i r w _ hg hw=>?_) (fun i s _ hs _=>hS i s hs) ?_ h1
 ·by_cases hi:i<p
  ·refine hJ i _ w ?_
   rw[<-wsum_off hg.mine p hi];exact hw
  ·rw[wsum_same (r':=r) p (fun j hj=>by simp[off];intro _;omega)];exact hw
 ·rw[wsum_same (r':=fun _=>true) p (fun j hj=>by simp;omega),hN];exact h0
section
variable {Q:Act->World->Prop} {k:Nat} {o:Oper} {rest:List Oper} {a:Act} {F:Nat->World->Prop}
theorem wsum_at {n:Nat->Bool}(hg:Good ops k n)(p:Nat)(hp:k<p){w:World}(h:J (wsum W n p) w):J (wsum W (off n k) p+W k) w:=by rw[<-wsum_off hg.mine p hp];exact h
theorem relAtW_next (h:relAtW P ops W J R S Q (k+1) rest a F)(hle:k+(o :: rest).length<=ops.size):relAtU P ops (k+(o :: rest).length) (fun r w=>J (wsum W r (k+(o :: rest).length)) w) (fun _=>R) S Q (k+1) rest a F:=by
 have e:k+(o :: rest).length=k+1+rest.length:=by simp;omega
 rw[e] at hle⊢;exact h hle
theorem relAt_nilW (h:∀w,J 0 w->(∀i,F i w)->Q a w):relAtW P ops W J R S Q k [] a F:=fun _ w r hr hJ hF=>h w (by
 have:wsum W r (k+0)=0:=wsum_none _ (fun j hj=>by rw[hr j (by simp at *;omega)];simp;omega);rw[<-this];exact hJ) hF
theorem relAt_detW (hS:S k=none)(hw:Region.wanted o (yielded ops a.tmps)=true)(h:∃u,(∀w n,J (n+W k) w->(execOp a.eval o).run P w=.ok (.value u) w)/\relAtW P ops W J R S Q (k+1) rest (a.put o.dst u) F) :
  relAtW P ops W J R S Q k (o :: rest) a F:=fun hle=>by
 obtain⟨u,hu,h⟩:=h;exact relAt_detU hS hw ⟨u,fun w n hg hJ=>hu w _ (wsum_at hg _ (by simp) hJ),relAtW_next h hle⟩
theorem dEW {u:Value}(h2:∀w n,J (n+W k) w->(execOp a.eval o).run P w=.ok (.value u) w)(h3:relAtW P ops W J R S Q (k+1) rest (a.put o.dst u) F)(hS:S k=none:=by exact rfl)(hw:Region.wanted o (yielded ops a.tmps)=true:=by exact rfl) :
  relAtW P ops W J R S Q k (o :: rest) a F:=relAt_detW hS hw ⟨u,h2,h3⟩
theorem relAt_noneW (hS:S k=none)(hw:Region.wanted o (yielded ops a.tmps)=true)(hu:∀w n,J (n+W k) w->(execOp a.eval o).run P w=.ok .skip w)(h:relAtW P ops W J R S Q (k+1) rest (a.put o.dst undef) F) :
  relAtW P ops W J R S Q k (o :: rest) a F:=fun hle=>relAt_noneU hS hw (fun w n hg hJ=>hu w _ (wsum_at hg _ (by simp) hJ)) (relAtW_next h hle)
theorem relAt_skipW (hw:Region.wanted o (yielded ops a.tmps)=false)(h:relAtW P ops W J R S Q (k+1) rest (a.put o.dst undef) F):relAtW P ops W J R S Q k (o :: rest) a F:=fun hle=>relAt_skipU hw (relAtW_next h hle)
theorem relAt_valueW (s:Spec)(hS:S k=some s)(hw:Region.wanted o (yielded ops a.tmps)=true)
  (hu:∀w n,J (n+W k) w->(∀e∈o.after,Region.binds .any e=true->F e.on w)->∃x w',(execOp a.eval o).run P w=.ok (.value (s.f x)) w'/\s.V x w'/\J n w'/\R w w')
  (h:∀x:s.α,relAtW P ops W J R S Q (k+1) rest (a.put o.dst (s.f x)) (upd F k (s.V x))):relAtW P ops W J R S Q k (o :: rest) a F:=fun hle=>relAt_valueU s hS hw (fun w n hg hJ hF=>hu w _ (wsum_at hg _ (by simp) hJ) hF) (fun x=>relAtW_next (h x) hle)
theorem relAt_callW (s:Spec)(hS:S k=some s)(hw:Region.wanted o (yielded ops a.tmps)=true)
  (hh:∃(f:FuncId) (args:Array Value),(∀w,(execOp a.eval o).run P w=.ok (.enter f args) w)/\
   (∀w n,J (n+W k) w->(∀e∈o.after,Region.binds .any e=true->F e.on w)->Calls P f args w fun e w'=>∃x,e=.returned (s.f x)/\s.V x w'/\J n w'/\R w w'))
  (h:∀x:s.α,relAtW P ops W J R S Q (k+1) rest (a.put o.dst (s.f x)) (upd F k (s.V x))):relAtW P ops W J R S Q k (o :: rest) a F:=fun hle=>by
 obtain⟨f,args,hr,hu⟩:=hh;exact relAt_callU s hS hw ⟨f,args,hr,fun w n hg hJ hF=>hu w _ (wsum_at hg _ (by simp) hJ) hF⟩ (fun x=>relAtW_next (h x) hle)
theorem relAt_sayW (s:Spec)(hS:S k=some s)(hw:Region.wanted o (yielded ops a.tmps)=true)(hf:∀x,s.f x=undef)
  (hu:∀w n,J (n+W k) w->(∀e∈o.after,Region.binds .any e=true->F e.on w)->∃x w',(execOp a.eval o).run P w=.ok .skip w'/\s.V x w'/\J n w'/\R w w')
  (h:∀x:s.α,relAtW P ops W J R S Q (k+1) rest (a.put o.dst undef) (upd F k (s.V x))):relAtW P ops W J R S Q k (o :: rest) a F:=
 fun hle=>relAt_sayU s hS hw hf (fun w n hg hJ hF=>hu w _ (wsum_at hg _ (by simp) hJ) hF) (fun x=>relAtW_next (h x) hle)
end
end
end
section
section
variable {P:Program} {ops:Array Oper} {J:Nat->World->Prop} {R:World->World->Prop} {S:Nat->Option Spec}
def relAt (P:Program)(ops:Array Oper)(J:Nat->World->Prop)(R:World->World->Prop)(S:Nat->Option Spec)(Q:Act->World->Prop)(k:Nat)(l:List Oper)(a:Act)(F:Nat->World->Prop):Prop:=
 relAtW P ops (fun _=>1) J R S Q k l a F
theorem wsum_one:∀p,wsum (fun _=>1) (fun _=>true) p=p
 | 0=>rfl
 | p+1=>by unfold wsum;rw[wsum_one p];rfl
theorem wp_region_rel {id:Nat}{Q:Exit->Act->World->Prop}{a:Act}{w:World}{l:List Oper}(p:Nat)(J:Nat->World->Prop)(R:World->World->Prop)(S:Nat->Option Spec)(hm:P.follows .mixedOrders=true)(hB:relB l.toArray p=true)
  (hJ:∀k w,J (k+1) w->J k w) (hS:∀i s,S i=some s->∀x w w',R w w'->s.V x w->s.V x w') (h0:J p w.drew)
  (h:relAt P l.toArray J R S (fun a w=>wpList P l.toArray Q (l.drop p) a w) 0 (l.take p) a (fun _ _=>True)):(Code.region id l.toArray true).wp P Q a w:=
 wp_region_relW p (fun _=>1) J R S hm hB (fun _ k w h=>hJ k w h) hS p (wsum_one p) h0 h
section
variable {Q:Act->World->Prop} {k:Nat} {o:Oper} {rest:List Oper} {a:Act} {F:Nat->World->Prop}
theorem relAt_nil (h:∀w,J 0 w->(∀i,F i w)->Q a w):relAt P ops J R S Q k [] a F:=relAt_nilW h
theorem relAt_det (hS:S k=none)(hw:Region.wanted o (yielded ops a.tmps)=true)(h:∃u,(∀w n,J (n+1) w->(execOp a.eval o).run P w=.ok (.value u) w)/\relAt P ops J R S Q (k+1) rest (a.put o.dst u) F) :
  relAt P ops J R S Q k (o :: rest) a F:=relAt_detW hS hw h
theorem dE {u:Value}(h2:∀w n,J (n+1) w->(execOp a.eval o).run P w=.ok (.value u) w)(h3:relAt P ops J R S Q (k+1) rest (a.put o.dst u) F)(hS:S k=none:=by exact rfl)(hw:Region.wanted o (yielded ops a.tmps)=true:=by exact rfl) :
  relAt P ops J R S Q k (o :: rest) a F:=relAt_det hS hw ⟨u,h2,h3⟩
theorem relAt_none (hS:S k=none)(hw:Region.wanted o (yielded ops a.tmps)=true)(hu:∀w n,J (n+1) w->(execOp a.eval o).run P w=.ok .skip w)(h:relAt P ops J R S Q (k+1) rest (a.put o.dst undef) F) :
  relAt P ops J R S Q k (o :: rest) a F:=relAt_noneW hS hw hu h
theorem relAt_skip (hw:Region.wanted o (yielded ops a.tmps)=false)(h:relAt P ops J R S Q (k+1) rest (a.put o.dst undef) F):relAt P ops J R S Q k (o :: rest) a F:=relAt_skipW hw h
theorem relAt_value (s:Spec)(hS:S k=some s)(hw:Region.wanted o (yielded ops a.tmps)=true)
  (hu:∀w n,J (n+1) w->(∀e∈o.after,Region.binds .any e=true->F e.on w)->∃x w',(execOp a.eval o).run P w=.ok (.value (s.f x)) w'/\s.V x w'/\J n w'/\R w w')
  (h:∀x:s.α,relAt P ops J R S Q (k+1) rest (a.put o.dst (s.f x)) (upd F k (s.V x))):relAt P ops J R S Q k (o :: rest) a F:=relAt_valueW s hS hw hu h
theorem relAt_call (s:Spec)(hS:S k=some s)(hw:Region.wanted o (yielded ops a.tmps)=true)
  (hh:∃(f:FuncId) (args:Array Value),(∀w,(execOp a.eval o).run P w=.ok (.enter f args) w)/\
   (∀w n,J (n+1) w->(∀e∈o.after,Region.binds .any e=true->F e.on w)->Calls P f args w fun e w'=>∃x,e=.returned (s.f x)/\s.V x w'/\J n w'/\R w w'))
  (h:∀x:s.α,relAt P ops J R S Q (k+1) rest (a.put o.dst (s.f x)) (upd F k (s.V x))):relAt P ops J R S Q k (o :: rest) a F:=relAt_callW s hS hw hh h
end
end
end
section
section
variable {P:Program} {ops:Array Oper} {p:Nat} {J:(Nat->Bool)->World->Prop} {R:World->World->Prop} {S:Nat->Option Spec}
def relAtS (P:Program)(ops:Array Oper)(p:Nat)(J:(Nat->Bool)->World->Prop)(R:World->World->Prop)(S:Nat->Option Spec)(Q:Act->World->Prop)(k:Nat)(l:List Oper)(a:Act)(F:Nat->World->Prop):Prop:=
 relAtU P ops p J (fun _=>R) S Q k l a F
theorem wp_region_relS {id:Nat}{Q:Exit->Act->World->Prop}{a:Act}{w:World}{l:List Oper}(p:Nat)(J:(Nat->Bool)->World->Prop)(R:World->World->Prop)(S:Nat->Option Spec)(hm:P.follows .mixedOrders=true)(hB:relB l.toArray p=true)
  (hJ:∀i r w,(S i=none\/∃oi,l.toArray[i]? = some oi/\oi.guard≠none)->Good l.toArray i r->J r w->J (off r i) w) (hS:∀i s,S i=some s->∀x w w',R w w'->s.V x w->s.V x w') (h0:J (fun j=>decide (j<l.length)) w.drew)
  (h:relAtS P l.toArray p J R S (fun a w=>wpList P l.toArray Q (l.drop p) a w) 0 (l.take p) a (fun _ _=>True)):(Code.region id l.toArray true).wp P Q a w:=
 wp_region_relU p J (fun _=>R) S hm hB hJ (fun i s _ hs _=>hS i s hs) h0 h
section
variable {Q:Act->World->Prop} {k:Nat} {o:Oper} {rest:List Oper} {a:Act} {F:Nat->World->Prop}
theorem relAt_nilS (h:∀w r,(∀j,j<ops.size->r j=decide (p<=j))->J r w->(∀i,F i w)->Q a w):relAtS P ops p J R S Q k [] a F:=h
theorem relAt_detS (hS:S k=none)(hw:Region.wanted o (yielded ops a.tmps)=true)(h:∃u,(∀w n,Good ops k n->J n w->(execOp a.eval o).run P w=.ok (.value u) w)/\relAtS P ops p J R S Q (k+1) rest (a.put o.dst u) F) :
  relAtS P ops p J R S Q k (o :: rest) a F:=relAt_detU hS hw h
theorem dES {u:Value}(h2:∀w n,Good ops k n->J n w->(execOp a.eval o).run P w=.ok (.value u) w)(h3:relAtS P ops p J R S Q (k+1) rest (a.put o.dst u) F)(hS:S k=none:=by exact rfl)(hw:Region.wanted o (yielded ops a.tmps)=true:=by exact rfl) :
  relAtS P ops p J R S Q k (o :: rest) a F:=dEU h2 h3 hS hw
theorem relAt_noneS (hS:S k=none)(hw:Region.wanted o (yielded ops a.tmps)=true)(hu:∀w n,Good ops k n->J n w->(execOp a.eval o).run P w=.ok .skip w)(h:relAtS P ops p J R S Q (k+1) rest (a.put o.dst undef) F) :
  relAtS P ops p J R S Q k (o :: rest) a F:=relAt_noneU hS hw hu h
theorem relAt_skipS (hw:Region.wanted o (yielded ops a.tmps)=false)(h:relAtS P ops p J R S Q (k+1) rest (a.put o.dst undef) F):relAtS P ops p J R S Q k (o :: rest) a F:=relAt_skipU hw h
theorem relAt_valueS (s:Spec)(hS:S k=some s)(hw:Region.wanted o (yielded ops a.tmps)=true)
  (hu:∀w n,Good ops k n->J n w->(∀e∈o.after,Region.binds .any e=true->F e.on w)->∃x w',(execOp a.eval o).run P w=.ok (.value (s.f x)) w'/\s.V x w'/\J (off n k) w'/\R w w')
  (h:∀x:s.α,relAtS P ops p J R S Q (k+1) rest (a.put o.dst (s.f x)) (upd F k (s.V x))):relAtS P ops p J R S Q k (o :: rest) a F:=relAt_valueU s hS hw hu h
theorem relAt_callS (s:Spec)(hS:S k=some s)(hw:Region.wanted o (yielded ops a.tmps)=true)
  (hh:∃(f:FuncId) (args:Array Value),(∀w,(execOp a.eval o).run P w=.ok (.enter f args) w)/\
   (∀w n,Good ops k n->J n w->(∀e∈o.after,Region.binds .any e=true->F e.on w)->Calls P f args w fun e w'=>∃x,e=.returned (s.f x)/\s.V x w'/\J (off n k) w'/\R w w'))
  (h:∀x:s.α,relAtS P ops p J R S Q (k+1) rest (a.put o.dst (s.f x)) (upd F k (s.V x))):relAtS P ops p J R S Q k (o :: rest) a F:=relAt_callU s hS hw hh h
theorem relAt_storeS (hS:S k=some ⟨Unit,(),fun _=>undef,fun _ _=>True⟩)(hw:Region.wanted o (yielded ops a.tmps)=true)
  (hu:∀w n,Good ops k n->J n w->(∀e∈o.after,Region.binds .any e=true->F e.on w)->∃w',(execOp a.eval o).run P w=.ok .skip w'/\J (off n k) w'/\R w w')
  (h:relAtS P ops p J R S Q (k+1) rest (a.put o.dst undef) (upd F k (fun _=>True))):relAtS P ops p J R S Q k (o :: rest) a F:=relAt_storeU hS hw hu h
end
end
end
end Go.Proofs.YtfjdmoppfbddpaaGreatDoor
