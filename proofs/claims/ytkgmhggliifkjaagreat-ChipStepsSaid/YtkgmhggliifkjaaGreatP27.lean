import Derived.Test.YtkgmhggliifkjaaGreatP26
namespace Go.Proofs.YtkgmhggliifkjaaGreat
open Go.RowKit Go.Proofs.Tryz
set_option linter.all false
set_option maxHeartbeats 8000000
set_option maxRecDepth 100000
theorem Blk.apart {w:World}{a b:Nat}{t u:TypeId}{C D:Array Value}(h:Blk w a t C)(k:Blk w b u D)(hne:t≠u):a≠b:=fun e=>by
 subst e;unfold Blk at h k;rw[h] at k;cases k
 exact hne rfl
theorem Ea {w:World}{B e n:Nat}{v:Value}{l:List Value}(h:w.ownsRow B e 1 v n l){g:Nat}(hg:v.ownBlock=some g):∃C,Blk w g e C:=by
 rcases h.2 with⟨h1,_⟩|⟨g',cap,cur,h1,_,h3,_⟩
 ·rw[h1] at hg;cases hg
 ·rw[h1] at hg;cases hg;exact⟨cur,h3⟩
section
variable {ops:Array Oper} {p:Nat} {J:(Nat->Bool)->World->Prop} {R:Nat->World->World->Prop} {S:Nat->Option Bo} {Q:Act->World->Prop} {k:Nat} {o:Oper} {rest:List Oper} {a:Act} {F:Nat->World->Prop}
theorem Gv {P:Program}(s:Bo)(hS:S k=some s)(hw:Region.wanted o (yielded ops a.tmps)=true)
  (hstep:∀w ob r,Gr ops k r->J r w->J (off r k) (w.alloc ob)) (hR:∀w ob,R k w (w.alloc ob))
  (hr:∀w r,Gr ops k r->J r w->(∀e∈o.after,Region.binds .any e=true->F e.on w)->∃x ob,(execOp a.eval o).run P w=.ok (.value (s.f x)) (w.alloc ob)/\s.V x (w.alloc ob))
  (h:∀x:s.α,Cx P ops p J R S Q (k+1) rest (a.put o.dst (s.f x)) (upd F k (s.V x))):Cx P ops p J R S Q k (o :: rest) a F:=by
 refine Ku s hS hw (fun w n hg hJ hf=>?_) h
 obtain⟨x,ob,hx,hV⟩:=hr w n hg hJ hf;exact⟨x,_,hx,hV,hstep _ _ _ hg hJ,hR _ _⟩
def Hp (B H e n:Nat)(v:Value)(l:List Value)(X:Value->World->Prop):Bo:=
 ⟨Nat×Nat,(0,0),fun u=>.slice (some u.1) (n+1) u.2,fun u w=>∃y,X y w/\w.ownsRow B e 1 (.slice (some u.1) (n+1) u.2) (n+1) (l ++ [y])/\(v.ownBlock=some u.1\/H<=u.1)⟩
theorem Lw (j b:Nat)(t B H:Nat)(e:TypeId)(i:TypeInfo)(z:Value)(bytes:Nat)(v:Value)(n c:Nat)(l:List Value)(s x:Operand)(X:Value->World->Prop)(V9:Nat->World->Prop)
  (hS:S k=some (Hp B H e n v l X)) (hgd:o.guard=none) (ho:o.op=.call {callee:=.builtin .append,args:=#[s,x],argTypes:=#[t,t] })
  (ht:prog.underlying t=some (.slice e)) (hi:prog.info? e=some i) (hz:i.zero=some z) (hsize:i.size=1) (hby:i.bytes=bytes) (hzs:z.cells.size=1)
  (hs:a.eval s=v) (hx:a.eval x=.slice (some b) 1 c)
  (hv:∀w r,Gr ops k r->J r w->w.ownsRow B e 1 v n l)
  (hstep:∀w w' r,Gr ops k r->J r w->Ext v.ownBlock.toList w w'->J (off r k) w') (hR:∀w w',Ext v.ownBlock.toList w w'->R k w w')
  (hj:o.after.any (fun e=>Region.binds .any e&&e.on==j)=true) (hF:F j=V9 b) (hV9:∀w,V9 b w->∃u,w.cell? ⟨b,0,none⟩=some u/\u.oneCell'=true/\X u w)
  (hX:∀y w w',X y w->Ext v.ownBlock.toList w w'->X y w')
  (h63:n+1<=maxLen) (hbytes:(n+1)*bytes<=140737488355328) (hbase:∀w r,J r w->B<=w.heap.size) (hH:∀w r,J r w->H<=w.heap.size)
  (h:∀u:Nat×Nat,Cx prog ops p J R S Q (k+1) rest (a.put o.dst (.slice (some u.1) (n+1) u.2)) (upd F k ((Hp B H e n v l X).V u))) :
  Cx prog ops p J R S Q k (o :: rest) a F:=by
 refine Ku _ hS (by simp[Region.wanted,hgd]) (fun w m hgo hJ hf=>?_) h
 have h9:=Cm hf j hj;rw[hF] at h9;obtain⟨u,hu,hu1,hXu⟩:=hV9 w h9
 obtain⟨g,cap,w',hr,hro,hg,hat,hlt⟩:=run_append_lies (P:=prog) w t o.type B e i z 1 bytes ht hi hz hsize hby hzs (by decide) v n l (hv w m hgo hJ) ⟨b,0,none⟩ 1 c [u] rfl (fun j y hj=>by
  match j,hj with
  | 0,hj=>cases hj;exact hu) (fun y hy=>by rw[ms hy];exact hu1) (by decide) h63 hbytes (hbase w m hJ) _ rfl
 have hE:Ext v.ownBlock.toList w w':=(Ext.refl _ w).grown hg (fun k hk=>.inl (by rw[hk];simp));refine⟨(g,cap),w',?_,⟨u,hX _ _ _ hXu hE,hro,hat.imp id (fun h=>by rw[h];exact hH w m hJ)⟩,hstep _ _ _ hgo hJ hE,hR _ _ hE⟩
 unfold execOp;simp only[ho,resolve,invoke,builtin,Sem.run_bind,Sem.run_pure,Result.andThen_ok,List.map_toArray,List.map_cons,List.map_nil,hs,hx,hr];rfl
end
theorem Fe {l:List (Nat×Bo)}{i:Nat}{s:Bo}(h:Bw l i=some s):(i,s)∈l:=by
 unfold Bw at h;cases hf:l.find? (fun x=>x.1==i) with
 | none=>rw[hf] at h;cases h
 | some x=>
  rw[hf] at h;cases h
  have h1:=List.find?_some hf;have h2:=List.mem_of_find?_eq_some hf;have h3:x.1=i:=by simpa using h1
  rw[<-h3];exact h2
def rows (bk:Nat->Nat)(N k:Nat):List Value:=(List.range k).map fun j=>.slice (some ⟨bk j,0,none⟩) N N
theorem Pa (bk:Nat->Nat)(N k b:Nat):rows (fun j=>if j<k then bk j else b) N (k+1)=rows bk N k ++ [.slice (some b) N N]:=by
 unfold rows;rw[List.range_succ,List.map_append];congr 1
 ·apply List.map_congr_left
  intro j hj;simp only[ijp (List.mem_range.1 hj)]
 ·simp
theorem Lx (bk:Nat->Nat)(N k j:Nat)(hj:j<k):(rows bk N k)[j]? = some (.slice (some ⟨bk j,0,none⟩) N N):=by
 unfold rows;rw[List.getElem?_map,List.getElem?_range hj];rfl
def Dg (N:Nat):Array Value:=madeCells #[(0:Int)] N
def Lc (N:Nat):Array Value:=madeCells #[.bool false] N
structure Jo (K N k:Nat)(vb vs:Value)(w:World)(bk sb:Nat->Nat):Prop where
 rowB:w.ownsRow K 22 1 vb k (rows bk N k)
 rowS:w.ownsRow K 80 1 vs k (rows sb N k)
 bank:∀j,j<k->Blk w (bk j) 3 (Dg N)/\K<=bk j
 set:∀j,j<k->Blk w (sb j) 4 (Lc N)/\K<=sb j
 apartB:∀i j,i<j->j<k->bk i≠bk j
 apartS:∀i j,i<j->j<k->sb i≠sb j
theorem Jo.nil (K N:Nat)(w:World):Jo K N 0 (.slice none 0 0) (.slice none 0 0) w (fun _=>0) (fun _=>0):=
 ⟨⟨rfl,.inl ⟨rfl,rfl⟩⟩,⟨rfl,.inl ⟨rfl,rfl⟩⟩,fun j h=>by omega,fun j h=>by omega,fun i j _ h=>by omega,fun i j _ h=>by omega⟩
def XI (H N:Nat)(y:Value)(w:World):Prop:=∃b,y=.slice (some ⟨b,0,none⟩) N N/\Blk w b 3 (Dg N)/\H<=b
def XB (H N:Nat)(y:Value)(w:World):Prop:=∃b,y=.slice (some ⟨b,0,none⟩) N N/\Blk w b 4 (Lc N)/\H<=b
theorem XI.ext {H N:Nat}{y:Value}{w w':World}{T:List Nat}(h:XI H N y w)(hE:Ext T w w')(hT:∀x∈T,x<H):XI H N y w':=by
 obtain⟨b,h1,h2,h3⟩:=h;exact⟨b,h1,h2.ext hE (fun hm=>by have:=hT _ hm;omega),h3⟩
theorem XB.ext {H N:Nat}{y:Value}{w w':World}{T:List Nat}(h:XB H N y w)(hE:Ext T w w')(hT:∀x∈T,x<H):XB H N y w':=by
 obtain⟨b,h1,h2,h3⟩:=h;exact⟨b,h1,h2.ext hE (fun hm=>by have:=hT _ hm;omega),h3⟩
theorem Jo.more {K N k H:Nat}{vb vs v8 v9:Value}{wq w:World}{bk sb:Nat->Nat}(h:Jo K N k vb vs wq bk sb)(hH:wq.heap.size=H)(hK:K<=H){T:List Nat}(hE:Ext T wq w)(hT:∀x∈T,∀t C,Blk wq x t C->t≠3/\t≠4)
  {g8 c8 g9 c9:Nat} {y8 y9:Value} (h8:v8=.slice (some g8) (k+1) c8) (h9:v9=.slice (some g9) (k+1) c9)
  (x8:XI H N y8 w) (x9:XB H N y9 w) (r8:w.ownsRow K 22 1 v8 (k+1) (rows bk N k ++ [y8])) (r9:w.ownsRow K 80 1 v9 (k+1) (rows sb N k ++ [y9])) :
  ∃bk' sb',Jo K N (k+1) v8 v9 w bk' sb':=by
 obtain⟨b8,e8,B8,l8⟩:=x8;obtain⟨b9,e9,B9,l9⟩:=x9;subst e8 e9;refine⟨fun j=>if j<k then bk j else b8,fun j=>if j<k then sb j else b9,by rw[Pa];exact r8,by rw[Pa];exact r9,fun j hj=>?_,fun j hj=>?_,fun i j hij hj=>?_,fun i j hij hj=>?_⟩
 ·by_cases hjk:j<k
  ·simp only[ijp hjk];obtain⟨a1,a2⟩:=h.bank j hjk;exact⟨a1.ext hE (fun hm=>(hT _ hm _ _ a1).1 rfl),a2⟩
  ·simp only[ijn hjk];exact⟨B8,by omega⟩
 ·by_cases hjk:j<k
  ·simp only[ijp hjk];obtain⟨a1,a2⟩:=h.set j hjk;exact⟨a1.ext hE (fun hm=>(hT _ hm _ _ a1).2 rfl),a2⟩
  ·simp only[ijn hjk];exact⟨B9,by omega⟩
 ·have hik:i<k:=by omega
  simp only[ijp hik];by_cases hjk:j<k
  ·simp only[ijp hjk];exact h.apartB i j hij hjk
  ·simp only[ijn hjk];have:=(h.bank i hik).1.lt;omega
 ·have hik:i<k:=by omega
  simp only[ijp hik];by_cases hjk:j<k
  ·simp only[ijp hjk];exact h.apartS i j hij hjk
  ·simp only[ijn hjk];have:=(h.set i hik).1.lt;omega
structure JB2 (u:Value->Value->Array Value)(K N c:Nat)(vb vs:Value)(k:Nat)(lb ls:List Value)(wq:World)(r:Nat->Bool)(w:World):Prop where
 ext:Ext (c :: two vb vs) wq w
 rowb:r 10=true->w.ownsRow K 22 1 vb k lb
 rows:r 19=true->w.ownsRow K 80 1 vs k ls
 chip:∃v8,Blk w c 72 (u v8 vs)/\(r 22=true->v8=vb)/\(r 22=false->∃x:Nat×Nat,v8=(Hp K wq.heap.size 22 k vb lb (XI wq.heap.size N)).f x/\(Hp K wq.heap.size 22 k vb lb (XI wq.heap.size N)).V x w)
section
variable {u:Value->Value->Array Value} {K N c:Nat} {vb vs:Value} {k:Nat} {lb ls:List Value} {wq w w':World} {r:Nat->Bool}
theorem Hp.ext {B H e n:Nat}{v:Value}{l:List Value}{X:Value->World->Prop}{x:Nat×Nat}{T:List Nat}(h:(Hp B H e n v l X).V x w)(hE:Ext T w w')(hX:∀y,X y w->X y w')(hT:x.1∉T):(Hp B H e n v l X).V x w':=by
 obtain⟨y,h1,h2,h3⟩:=h;exact⟨y,hX y h1,An h2 hE (fun g hg=>by cases hg;exact hT),h3⟩
structure Ap (c:Nat)(vb vs:Value)(H:Nat):Prop where
 b:∀g,vb.ownBlock=some g->g<H/\g≠c
 s:∀g,vs.ownBlock=some g->g<H/\g≠c
 bs:∀g g',vb.ownBlock=some g->vs.ownBlock=some g'->g≠g'
 c:c<H
theorem JB2.idle (h:JB2 u K N c vb vs k lb ls wq r w)(ha:Ap c vb vs wq.heap.size)(hE:Ext [] w w')(i:Nat)(hi:i≠10/\i≠19/\i≠22):JB2 u K N c vb vs k lb ls wq (off r i) w':=by
 obtain⟨v8,h1,h2,h3⟩:=h.chip;refine⟨h.ext.trans (hE.nil),fun hr=>An (h.rowb (by rwa [Dj hi.1] at hr)) hE (by simp),fun hr=>An (h.rows (by rwa [Dj hi.2.1] at hr)) hE (by simp),v8,h1.ext hE (by simp),by rw[Dj hi.2.2];exact h2,fun hr=>?_⟩
 rw[Dj hi.2.2] at hr;obtain⟨x,e,hx⟩:=h3 hr;exact⟨x,e,Hp.ext hx hE (fun y hy=>hy.ext hE (by simp)) (by simp)⟩
theorem Ag0 {g:Nat}(hg:g∈vb.ownBlock.toList):g∈two vb vs:=by unfold two;exact List.mem_append_left _ hg
theorem Ag1 {g:Nat}(hg:g∈vs.ownBlock.toList):g∈two vb vs:=by unfold two;exact List.mem_append_right _ hg
theorem JB2.app10 (h:JB2 u K N c vb vs k lb ls wq r w)(ha:Ap c vb vs wq.heap.size)(hE:Ext vb.ownBlock.toList w w')(h22:r 22=true):JB2 u K N c vb vs k lb ls wq (off r 10) w':=by
 obtain⟨v8,h1,h2,h3⟩:=h.chip;refine⟨h.ext.trans (hE.mono (fun x hx=>.inl (List.mem_cons_of_mem _ (Ag0 hx)))),fun hr=>by simp[off] at hr,fun hr=>An (h.rows (by rwa [Dj (by decide)] at hr)) hE (fun g hg hm=>?_),v8,h1.ext hE (fun hm=>?_),by rw[Dj (by decide)];exact h2,fun hr=>?_⟩
 ·exact ha.bs g g (by simpa using hm) hg rfl
 ·exact(ha.b c (by simpa using hm)).2 rfl
 ·rw[Dj (by decide),h22] at hr;cases hr
theorem JB2.app19 (h:JB2 u K N c vb vs k lb ls wq r w)(ha:Ap c vb vs wq.heap.size)(hE:Ext vs.ownBlock.toList w w')(h22:r 22=true):JB2 u K N c vb vs k lb ls wq (off r 19) w':=by
 obtain⟨v8,h1,h2,h3⟩:=h.chip;refine⟨h.ext.trans (hE.mono (fun x hx=>.inl (List.mem_cons_of_mem _ (Ag1 hx)))),fun hr=>An (h.rowb (by rwa [Dj (by decide)] at hr)) hE (fun g hg hm=>?_),fun hr=>by simp[off] at hr,v8,h1.ext hE (fun hm=>?_),by rw[Dj (by decide)];exact h2,fun hr=>?_⟩
 ·exact ha.bs g g hg (by simpa using hm) rfl
 ·exact(ha.s c (by simpa using hm)).2 rfl
 ·rw[Dj (by decide),h22] at hr;cases hr
end
def RB (c:Nat)(vb vs:Value)(i:Nat)(w w':World):Prop:=Ext (if i=10 then vb.ownBlock.toList else if i=19 then vs.ownBlock.toList else if i=22 then [c] else []) w w'
theorem RB.nil {c:Nat}{vb vs:Value}{w w':World}{i:Nat}(hE:Ext [] w w'):RB c vb vs i w w':=hE.nil
def Ih (H N:Nat):Bo:=⟨Nat,0,fun b=>.slice (some ⟨b,0,none⟩) N N,fun b w=>Blk w b 3 (Dg N)/\H<=b⟩
def Aag (H N:Nat):Bo:=⟨Nat,0,fun b=>.slice (some ⟨b,0,none⟩) N N,fun b w=>Blk w b 4 (Lc N)/\H<=b⟩
def Je (H:Nat)(X:Value->World->Prop):Bo:=⟨Nat,0,fun b=>.slice (some ⟨b,0,none⟩) 1 1,fun b w=>H<=b/\∃u,w.cell? ⟨b,0,none⟩=some u/\u.oneCell'=true/\X u w⟩
section
variable {c H N K k:Nat} {vb vs:Value} {lb ls:List Value} {w w':World} {j:Nat}
theorem RB.low (ha:Ap c vb vs H)(h:RB c vb vs j w w'):∃T,Ext T w w'/\(∀x∈T,x<H)/\(j≠10->∀g,vb.ownBlock=some g->g∉T)/\(j≠19->∀g,vs.ownBlock=some g->g∉T):=by
 refine⟨_,h,?_,?_,?_⟩
 ·intro x hx;split at hx
  ·exact(ha.b x (by simpa using hx)).1
  split at hx
  ·exact(ha.s x (by simpa using hx)).1
  split at hx
  ·rw[ms hx];exact ha.c
  ·cases hx
 ·intro hj g hg hm;rw[ijn hj] at hm;split at hm
  ·exact ha.bs g g hg (by simpa using hm) rfl
  split at hm
  ·exact(ha.b g hg).2 (ms hm)
  ·cases hm
 ·intro hj g hg hm;split at hm
  ·exact ha.bs g g (by simpa using hm) hg rfl
  split at hm
  ·exact(ha.s g hg).2 (ms hm)
  ·cases hm
theorem Rl (ha:Ap c vb vs H){i:Nat}{s:Bo}(hs:Bw [(8,Ih H N),(9,Je H (XI H N)),(10,Hp K H 22 k vb lb (XI H N)),(17,Aag H N),(18,Je H (XB H N)),(19,Hp K H 80 k vs ls (XB H N)),(22,⟨Unit,(),fun _=>undef,fun _ _=>True⟩)] i=some s)(hj:j≠i):∀x w w',RB c vb vs j w w'->s.V x w->s.V x w':=by
 have hm:=Fe hs;simp only[List.mem_cons,Prod.mk.injEq,List.not_mem_nil,or_false] at hm;intro x w w' hR hV;obtain⟨T,hE,hT,hb,hss⟩:=RB.low ha hR;rcases hm with⟨rfl,rfl⟩|⟨rfl,rfl⟩|⟨rfl,rfl⟩|⟨rfl,rfl⟩|⟨rfl,rfl⟩|⟨rfl,rfl⟩|⟨rfl,rfl⟩
 ·exact⟨hV.1.ext hE (fun h=>by have h1:=hT _ h;have h2:=hV.2;omega),hV.2⟩
 ·obtain⟨h1,u,h2,h3,h4⟩:=hV;exact⟨h1,u,hE.held h2 (fun h=>by have:=hT _ h;dsimp only at this;omega),h3,h4.ext hE hT⟩
 ·refine Hp.ext hV hE (fun y hy=>hy.ext hE hT) ?_
  obtain⟨y,_,_,h3⟩:=hV;rcases h3 with h3|h3
  ·exact hb hj _ h3
  ·exact fun h=>by have:=hT _ h;omega
 ·exact⟨hV.1.ext hE (fun h=>by have h1:=hT _ h;have h2:=hV.2;omega),hV.2⟩
 ·obtain⟨h1,u,h2,h3,h4⟩:=hV;exact⟨h1,u,hE.held h2 (fun h=>by have:=hT _ h;dsimp only at this;omega),h3,h4.ext hE hT⟩
 ·refine Hp.ext hV hE (fun y hy=>hy.ext hE hT) ?_
  obtain⟨y,_,_,h3⟩:=hV;rcases h3 with h3|h3
  ·exact hss hj _ h3
  ·exact fun h=>by have:=hT _ h;omega
 ·trivial
end
theorem Jo.ext {K N k:Nat}{vb vs:Value}{w w':World}{bk sb:Nat->Nat}{T:List Nat}(h:Jo K N k vb vs w bk sb)(hE:Ext T w w')(hT:∀g t C,Blk w g t C->t=3\/t=4\/t=22\/t=80->g∉T):Jo K N k vb vs w' bk sb:=
 ⟨An h.rowB hE (fun g hg=>by obtain⟨C,hC⟩:=Ea h.rowB hg;exact hT g _ C hC (by simp)),An h.rowS hE (fun g hg=>by obtain⟨C,hC⟩:=Ea h.rowS hg;exact hT g _ C hC (by simp)),
  fun j hj=>⟨(h.bank j hj).1.ext hE (hT _ _ _ (h.bank j hj).1 (by simp)),(h.bank j hj).2⟩,fun j hj=>⟨(h.set j hj).1.ext hE (hT _ _ _ (h.set j hj).1 (by simp)),(h.set j hj).2⟩,h.apartB,h.apartS⟩
theorem Blk.type {w:World}{a:Nat}{t u:TypeId}{C D:Array Value}(h:Blk w a t C)(k:Blk w a u D):t=u:=by
 unfold Blk at h k;rw[h] at k;cases k
 rfl
def kdN (c mb bo so qb eb NB:Nat)(A:Option Addr)(bk sb:Nat->Nat)(x:Nat):Nat:=
 if x=c then 0 else if x=mb then 1 else if x=bo then 2 else if x=so then 3 else if x=qb then 4 else if x=eb then 5
 else if A.any (fun a=>a.block==x) then 6
 else match (List.range NB).find? (fun b=>bk b==x) with
  | some b=>10+b
  | none=>match (List.range NB).find? (fun b=>sb b==x) with
   | some b=>20+b
   | none=>40
theorem Oj {f:Nat->Nat}{n b:Nat}(hb:b<n)(hi:∀i j,i<j->j<n->f i≠f j):(List.range n).find? (fun i=>f i==f b)=some b:=by
 cases h:(List.range n).find? (fun i=>f i==f b) with
 | none=>have:=List.find?_eq_none.1 h b (List.mem_range.2 hb);simp at this
 | some i=>
  have h1:=List.find?_some h;have h2:=List.mem_range.1 (List.mem_of_find?_eq_some h);have h3:f i=f b:=by simpa using h1
  rcases Nat.lt_trichotomy i b with h4|h4|h4
  ·exact absurd h3 (hi i b h4 hb)
  ·rw[h4]
  ·exact absurd h3.symm (hi b i h4 h2)
theorem Qk {f:Nat->Nat}{n x:Nat}(h:∀i,i<n->f i≠x):(List.range n).find? (fun i=>f i==x)=none:=
 List.find?_eq_none.2 fun i hi=>by have:=h i (List.mem_range.1 hi);simpa using this
theorem Ok {w:World}{K e n:Nat}{v:Value}{l:List Value}(h:w.ownsRow K e 1 v n l)(hn:0<n){f:Nat->Value}(hf:∀i,i<n->l[i]? = some (f i)):∃g cap,v=.slice (some ⟨g,0,none⟩) n cap/\K<=g/\UpW w g e n f/\n<=cap:=by
 rcases h.2 with⟨_,h0⟩|⟨g,cap,cur,hv,hb,hg,hnc,_,_,ht⟩
 ·omega
 ·refine⟨g,cap,hv,hb,⟨cur,hg,fun i hi=>?_⟩,hnc⟩
  have h1:=hf i hi;rw[<-ht,List.getElem?_take,ijp (by omega)] at h1;simpa using h1
theorem Ge {w:World}{b n:Nat}{t:TypeId}{z:Value}(h:Blk w b t (madeCells #[z] n)):UpW w b t n fun _=>z:=by
 refine⟨_,h,fun i hi=>?_⟩
 unfold madeCells;rw[Array.getElem?_map,Array.getElem?_range,ijp hi];simp[Nat.mod_one]
theorem Adn (ml NB N q n:Nat)(m3:Int)(A:CA)(bo bcap so scap:Nat)(hbo:A.bo=bo)(hbc:A.bcap=bcap)(hso:A.so=so)(hsc:A.scap=scap)(hlv:A.lv=.slice none 0 0)(main:List Int) :
  chN ml NB N m3 q (.slice A.code n A.ccap) (.slice (some A.eb) n n) (.slice (some A.mb) ml A.mcap) (.slice (some bo) NB bcap) (.slice (some so) NB scap) (.slice (some A.qb) q q) (n==0)=Ce ⟨ml,NB,N,m3,q⟩ A (MS.new main n) n:=by
 obtain⟨_,_,_,_,_,_,_,_,_,_,_,_,_,_,_,_,_,_⟩:=A;dsimp only at *;subst hbo hbc hso hsc hlv;kernel_rfl
theorem Aah (ml NB N q:Nat)(m3:Int)(hok:(Mc.mk ml NB N m3 q).okB=true)(xs:List Ins)(main:List Int)(hml:main.length=ml)(w:World)(H K c:Nat)(Ac:Option Addr)(ca eb mb mc qb:Nat)(vb vs:Value)(bk sb:Nat->Nat)
  (hB:Blk w c 72 (chN ml NB N m3 q (.slice Ac xs.length ca) (.slice (some eb) xs.length xs.length) (.slice (some mb) ml mc) vb vs (.slice (some qb) q q) (xs.length==0)))
  (hR:RdC w Ac xs) (hEb:Blk w eb 3 (Db (Jm xs xs.length))) (hmc:ml<=mc) (hU:UpW w mb 3 ml fun i=>.int .i64 (main.getD i 0)) (hQ:Blk w qb 94 (madeCells #[.pointer none] q))
  (hgd:xs=[]\/∃g,Ac=some ⟨g,0,none⟩/\H<=g/\g≠eb/\g≠mb/\g≠qb/\g≠c/\g<K) (d1:H<=eb) (d2:H<=mb) (d3:H<=qb) (d4:H<=c) (d5:eb≠mb) (d6:eb≠qb) (d7:eb≠c) (d8:mb≠qb) (d9:mb≠c) (d10:qb≠c)
  (k1:eb<K) (k2:mb<K) (k3:qb<K) (k4:c<K) (hI:Jo K N NB vb vs w bk sb) :
  ∃A:CA,Ag w A ⟨ml,NB,N,m3,q⟩ xs (MS.new main xs.length)/\A.c=c/\∀b,A.kd b<40->H<=b:=by
 have hmk:=Bc hok;dsimp only at hmk;obtain⟨bo,bcap,rfl,hbK,hbU,_⟩:=Ok hI.rowB (by omega) (f:=fun b=>.slice (some ⟨bk b,0,none⟩) N N) (fun i hi=>Lx _ _ _ _ hi);obtain⟨so,scap,rfl,hsK,hsU,_⟩:=Ok hI.rowS (by omega) (f:=fun b=>.slice (some ⟨sb b,0,none⟩) N N) (fun i hi=>Lx _ _ _ _ hi);obtain⟨bC,hbC,_⟩:=id hbU;obtain⟨sC,hsC,_⟩:=id hsU;have e1:bo≠so:=hbC.apart hsC (by decide);have e2:∀b,b<NB->bk b≠bo:=fun b hb=>(hI.bank b hb).1.apart hbC (by decide)
 have e3:∀b,b<NB->bk b≠so:=fun b hb=>(hI.bank b hb).1.apart hsC (by decide)
 have e4:∀b,b<NB->sb b≠bo:=fun b hb=>(hI.set b hb).1.apart hbC (by decide)
 have e5:∀b,b<NB->sb b≠so:=fun b hb=>(hI.set b hb).1.apart hsC (by decide)
 have e6:∀a b,a<NB->b<NB->bk a≠sb b:=fun a b ha hb=>(hI.bank a ha).1.apart (hI.set b hb).1 (by decide)
 have e7:∀b,b<NB->K<=bk b:=fun b hb=>(hI.bank b hb).2
 have e8:∀b,b<NB->K<=sb b:=fun b hb=>(hI.set b hb).2
 have hKH:H<=K:=by omega
 have hAc:∀x,K<=x->xs≠[]->Ac.any (fun a=>a.block==x)=false:=fun x hx hne=>by
  rcases hgd with h|⟨g,rfl,_,_,_,_,_,hg⟩
  ·exact absurd h hne
  ·simp;omega
 obtain⟨Ad,hAd1,hAd2,hAd3⟩:∃Ad:Option Addr,(∀x,K<=x->Ad.any (fun a=>a.block==x)=false)/\(xs=[]\/Ad=Ac)/\∀x,Ad.any (fun a=>a.block==x)=true->H<=x:=by
  rcases hgd with h|⟨g,rfl,hg1,_,_,_,_,hg⟩
  ·exact⟨none,fun _ _=>rfl,.inl h,fun x hx=>by cases hx⟩
  ·refine⟨some g,fun x hx=>by simp;omega,.inr rfl,fun x hx=>?_⟩
   simp at hx;omega
 refine⟨{c:=c,eb:=eb,mb:=mb,mcap:=mc,bo:=bo,bcap:=bcap,so:=so,scap:=scap,qb:=qb,bk:=bk,sb:=sb,code:=Ac,ccap:=ca,lv:=.slice none 0 0,tb:=fun _=>0,ta:=fun _=>none,tc:=fun _=>0,kd:=kdN c mb bo so qb eb NB Ad bk sb },?_,rfl,fun b hb=>?_⟩
 ·refine⟨?_,⟨hR,hEb,?_,?_,?_⟩,⟨?_,fun b hb=>?_,fun b hb=>?_⟩,⟨?_,fun i hi t ht=>by cases ht⟩,⟨⟨rfl,.inl ⟨rfl,rfl⟩⟩,fun g hg=>by cases hg⟩,?_⟩
  ·rw[<-Adn ml NB N q xs.length m3 _ bo bcap so scap rfl rfl rfl rfl rfl main];exact hB
  ·exact hbU
  ·exact hsU
  ·show(ml:Int).toNat<=mc;omega
  ·exact hU.same (fun i hi=>by show Value.int .i64 (if(-1:Int)<0/\(0:Int)<=(i:Nat) then main.getD ((i:Nat):Int).toNat 0 else 0)=_;rw[ijp ⟨by omega,by omega⟩];rfl)
  ·refine(Ge (hI.bank b hb).1).same (fun i hi=>?_)
   show Value.int .i64 (if((b:Nat):Int)<0/\(0:Int)<=(i:Nat) then main.getD ((i:Nat):Int).toNat 0 else 0)=_
   rw[ijn (by omega)]
  ·exact(Ge (hI.set b hb).1).same (fun i hi=>rfl)
  ·exact(Ge hQ).same (fun i hi=>rfl)
  ·refine⟨hok,?_,?_,?_,?_,?_,?_,?_,fun b hb=>?_,fun b hb=>?_⟩
   ·show kdN c mb bo so qb eb NB Ad bk sb c=0;unfold kdN;rw[ijp rfl]
   ·show kdN c mb bo so qb eb NB Ad bk sb mb=1;unfold kdN;rw[ijn (by omega),ijp rfl]
   ·show kdN c mb bo so qb eb NB Ad bk sb bo=2;unfold kdN;rw[ijn (by omega),ijn (by omega),ijp rfl]
   ·show kdN c mb bo so qb eb NB Ad bk sb so=3;unfold kdN;rw[ijn (by omega),ijn (by omega),ijn (by omega),ijp rfl]
   ·show kdN c mb bo so qb eb NB Ad bk sb qb=4;unfold kdN;rw[ijn (by omega),ijn (by omega),ijn (by omega),ijn (by omega),ijp rfl]
   ·show kdN c mb bo so qb eb NB Ad bk sb eb=5;unfold kdN;rw[ijn (by omega),ijn (by omega),ijn (by omega),ijn (by omega),ijn (by omega),ijp rfl]
   ·rcases hgd with h|⟨g,rfl,_,g1,g2,g3,g4,g5⟩
    ·exact .inl h
    ·rcases hAd2 with h|rfl
     ·exact .inl h
     ·refine .inr fun a ha=>?_
      cases ha
      show kdN c mb bo so qb eb NB (some g) bk sb g=6
      unfold kdN;rw[ijn (by omega),ijn (by omega),ijn (by omega),ijn (by omega),ijn (by omega),ijn (by omega),ijp (by simp)]
   ·have hb':b<NB:=by have:(NB:Int).toNat=NB:=rfl;exact hb
    have h1:=e7 b hb';have h2:=e2 b hb';have h3:=e3 b hb';show kdN c mb bo so qb eb NB Ad bk sb (bk b)=10+b
    unfold kdN;rw[ijn (by omega),ijn (by omega),ijn (by omega),ijn (by omega),ijn (by omega),ijn (by omega),hAd1 _ h1,ijn (by decide),Oj hb' hI.apartB]
   ·have hb':b<NB:=by have:(NB:Int).toNat=NB:=rfl;exact hb
    have h1:=e8 b hb';have h2:=e4 b hb';have h3:=e5 b hb';show kdN c mb bo so qb eb NB Ad bk sb (sb b)=20+b
    unfold kdN;rw[ijn (by omega),ijn (by omega),ijn (by omega),ijn (by omega),ijn (by omega),ijn (by omega),hAd1 _ h1,ijn (by decide),Qk (fun i hi=>e6 i b hi hb'),Oj hb' hI.apartS]
 ·replace hb:kdN c mb bo so qb eb NB Ad bk sb b<40:=hb;unfold kdN at hb;by_cases c1:b=c
  ·omega
  rw[ijn c1] at hb;by_cases c2:b=mb
  ·omega
  rw[ijn c2] at hb;by_cases c3:b=bo
  ·omega
  rw[ijn c3] at hb;by_cases c4:b=so
  ·omega
  rw[ijn c4] at hb;by_cases c5:b=qb
  ·omega
  rw[ijn c5] at hb;by_cases c6:b=eb
  ·omega
  rw[ijn c6] at hb;by_cases c7:Ad.any (fun a=>a.block==b)=true
  ·exact hAd3 b c7
  rw[ijn c7] at hb;cases hf:(List.range NB).find? (fun i=>bk i==b) with
  | some i=>
   have h1:=List.find?_some hf;have h2:=List.mem_range.1 (List.mem_of_find?_eq_some hf);have h3:bk i=b:=by simpa using h1
   have:=e7 i h2;omega
  | none=>
   rw[hf] at hb;cases hg:(List.range NB).find? (fun i=>sb i==b) with
   | some i=>
    have h1:=List.find?_some hg;have h2:=List.mem_range.1 (List.mem_of_find?_eq_some hg);have h3:sb i=b:=by simpa using h1
    have:=e8 i h2;omega
   | none=>rw[hg] at hb;dsimp only at hb;omega
end Go.Proofs.YtkgmhggliifkjaaGreat
