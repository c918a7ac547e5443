import Derived.Test.YtfppibmloloakaaGreatDoorK08
namespace Go.Proofs.YtfppibmloloakaaGreatDoor
open Go.RowKit Go.Proofs.Tryz
set_option linter.all false
set_option maxHeartbeats 64000000
section
theorem Af2 (l:List St):Acj l:=Ut l fun s _=>Dn (P:=fun s=>Acj s.body) (fun h ks ih=>Ut ks ih) s
def Bdd (x:Int):Prop:=-100000<=x/\x<=100000
def Bn (w:World)(eb:Nat)(vs:List Int):Prop:=vs.length<=8/\(∀v∈vs,Bdd v)/\∃C:Array Value,Blk w eb 3 C/\C.size=8/\(∀(i:Nat) (x:Int),vs[i]? = some x->C[i]? = some (.int .i64 x))
theorem Bn.keep {w w':World}{eb:Nat}{vs:List Int}(h:Bn w eb vs){S:List Nat}(hE:Ext S w w')(hS:eb∉S):Bn w' eb vs:=by
 obtain⟨h1,h2,C,h3,h4⟩:=h;exact⟨h1,h2,C,h3.ext hE hS,h4⟩
theorem Bn.at {w:World}{eb:Nat}{vs:List Int}(h:Bn w eb vs){i:Nat}{x:Int}(hx:vs[i]? = some x):w.cell? ⟨eb,i,none⟩=some (.int .i64 x):=by
 obtain⟨h1,h2,C,h3,h4,h5⟩:=h;rw[h3.cell];exact h5 i x hx
theorem Bn.lt {w:World}{eb:Nat}{vs:List Int}(h:Bn w eb vs):eb<w.heap.size:=by
 obtain⟨h1,h2,C,h3,h4⟩:=h;exact h3.lt
theorem Bn.made (w:World):Bn (w.alloc (.cells (Array.replicate 8 (.int .i64 0)) 3)) w.heap.size []:=⟨by simp,by simp,_,jK w 3 _,by simp,by simp⟩
theorem Adq {n:Nat}{f:Nat->Int}{M:Int}(hM:0<=M)(h:∀k,k<n->-M<=f k/\f k<=M) : -(n*M)<=Ee n f/\Ee n f<=n*M:=by
 induction n with
 | zero=>simp[Ee]
 | succ n ih=>
  have h1:=ih fun k hk=>h k (by omega)
  have h2:=h n (by omega);have e:((n+1:Nat):Int)*M=n*M+M:=by push_cast;rw[Int.add_mul,Int.one_mul]
  rw[e];simp only[Ee];omega
theorem Qn {a b:Int}(ha:Bdd a)(hb:Bdd b) : -10000000000<=a*b/\a*b<=10000000000:=by
 obtain⟨a1,a2⟩:=ha;obtain⟨b1,b2⟩:=hb;have h1:a.natAbs*b.natAbs<=100000*100000:=Nat.mul_le_mul (by omega) (by omega);rw[<-Int.natAbs_mul] at h1;omega
def lnV (base:Int)(c:Nat->Int)(vs:List Int):Int:=base+Ee vs.length fun k=>c k*(vs[k]?).getD 0
theorem Bdd.get {vs:List Int}(h:∀v∈vs,Bdd v)(k:Nat):Bdd ((vs[k]?).getD 0):=by
 cases hv:vs[k]? with
 | none=>exact⟨by decide,by decide⟩
 | some x=>exact h x (ilm hv)
theorem Yd {base:Int}{c:Nat->Int}{vs:List Int}(hb:Bdd base)(hc:∀k,Bdd (c k))(hv:∀v∈vs,Bdd v)(n:Nat)(hn:n<=8) : -100000000000<=base+Ee n (fun k=>c k*(vs[k]?).getD 0)/\base+Ee n (fun k=>c k*(vs[k]?).getD 0)<=100000000000:=by
 have h1:=Adq (n:=n) (f:=fun k=>c k*(vs[k]?).getD 0) (M:=10000000000) (by decide) fun k _=>Qn (hc k) (Bdd.get hv k)
 obtain⟨b1,b2⟩:=hb;omega
set_option maxRecDepth 100000 in
theorem Akb (g o:Nat)(base:Int)(c:Nat->Int)(eb:Nat)(vs:List Int)(w:World)(hc:∀(j:Nat) (v:Value),(Bl base c).toList[j]? = some v->w.cell? ⟨g,o+j,none⟩=some v)(hv:Bn w eb vs)(hb:Bdd base)(hcb:∀k,Bdd (c k)) :
  Calls prog 149 #[.pointer (some ⟨g,o,none⟩),.slice (some eb) vs.length 8] w fun e w'=>e=.returned (.int .i64 (lnV base c vs))/\Ext [] w w':=by
 have HC:=hd hc;have HV:=hd hv;have HB:=hd hb;have a1:=hd hcb;have h8:=hv.1;clear hc hv hb hcb;have HP:=hd (fun n (hn:n<=8)=>Yd HB.o a1.o HV.o.2.1 n hn);generalize a7:vs.length=d at *;have HD:=hd a7;clear a7;have q0:w.cell? ⟨g,o,none⟩=some (.int .i64 base):=HC.o 0 _ rfl;have ac:=jB w _ q0;simp only at ac;go_enter func149,ntmps149
 go_wp2_with fail
 go_loopw [5,14] (fun s i wr=>∃k:Nat,i=.int .i64 k/\s=.int .i64 (base+Ee k fun k=>c k*(vs[k]?).getD 0)/\k<=d/\Hd (Ext [] w wr)) (fun _ i _=>(d-intOf i).toNat)
 case atStart=>exact⟨0,rfl,by simp[Ee],jQ _,hd (jF _ _)⟩
 case round=>
  obtain⟨k,rfl,rfl,hk,HE⟩:=hrel;rename World=>wq
  by_cases aj:k<d
  ·have a2:(k:Int)<(d:Int):=by omega
   have hx:vs[k]? = some ((vs[k]?).getD 0):=by rw[jJ (by have:=HD.o;omega)];rfl
   have qv:wq.cell? ⟨eb,k,none⟩=some (.int .i64 ((vs[k]?).getD 0)):=(HV.o.keep HE.o (by simp)).at hx;have qc:wq.cell? ⟨g,o+1+k,none⟩=some (.int .i64 (c k)):=HE.o.held (by rw[Nat.add_assoc,Nat.add_comm 1 k];exact HC.o (k+1) _ (by rw[Array.getElem?_toList];exact Ur base c k (by omega))) (by simp);have ad:=jB wq _ qv;have ae:=jB wq _ qc;simp only at ad ae;have ag:(k:Int)<8:=by omega
   have HM:=hd (Qn (a1.o k) (Bdd.get HV.o.2.1 k));have ah:=hd (HP.o (k+1) (by omega));have a6:=hd (HP.o k (by omega));generalize a8:(vs[k]?).getD 0=x at *;have HX:=hd a8;generalize aa:c k=ck at *;have af:=hd aa;clear hx a8 aa;have m1 : -9223372036854775808<=ck*x:=by have:=HM.o.1;omega
   have m2:ck*x<=9223372036854775807:=by have:=HM.o.2;omega
   have hs:Ee (k+1) (fun k=>c k*(vs[k]?).getD 0)=Ee k (fun k=>c k*(vs[k]?).getD 0)+ck*x:=by
    rw[<-HX.o,<-af.o];rfl
   have HS:=hd hs;clear hs;generalize ab:Ee k (fun k=>c k*(vs[k]?).getD 0)=sk at *;have ai:=hd ab;clear ab;have m3 : -9223372036854775808<=base+sk+ck*x:=by have:=a6.o.1;have:=HM.o.1;omega
   have m4:base+sk+ck*x<=9223372036854775807:=by have:=a6.o.2;have:=HM.o.2;omega
   go_wp2_with fail
   go_roundw
   case rel=>exact⟨k+1,by go_num,by rw[HS.o,Int.add_assoc],by omega,HE⟩
   case measure=>simp[intOf];omega
  ·have a2:k=d:=by omega
   subst a2;go_wp2_with fail
   go_ret
   exact⟨Ae (by unfold lnV;rw[HD.o]),HE.o⟩
def Nr (eb d:Nat)(x:Int)(p:Addr)(y:Value):Prop:=p.block=eb/\p.off=d/\y=.int .i64 x
theorem Bn.rw {w w':World}{eb d:Nat}{vs:List Int}{x:Int}(h:Bn w eb vs)(hR:RW (Nr eb d x) w w')(hx:∀y,vs[d]? = some y->y=x):Bn w' eb vs:=by
 obtain⟨h1,h2,C,h3,h4,h5⟩:=h;obtain⟨C',hg,hz⟩:=hR.1 eb C _ h3;refine⟨h1,h2,C',hg,hz.trans h4,fun i y hy=>?_⟩
 have e1:=hR.held ((h3.cell i).trans (h5 i y hy)) fun u hu=>by
  obtain⟨-,a1,a2⟩:=hu;simp only at a1;subst a1;rw[a2,hx y hy]
 rw[cell_of_row w' eb i C' _ (0,0) hg] at e1;exact e1
theorem Dw.set1 (w:World)(b i:Nat)(v:Value):Dw w (w.setCell ⟨b,i,none⟩ v):=fun k cur t hk=>by
 by_cases hb:k=b
 ·subst hb;exact⟨cur.setIfInBounds i v,by simp[World.setCell,Array.getElem?_modify,hk],by simp⟩
 ·exact⟨cur,by simp[World.setCell,Array.getElem?_modify,hk,Ne.symm hb],rfl⟩
theorem RW.set1 {f:Addr->Value->Prop}{w:World}{b i:Nat}{v:Value}(hf:f ⟨b,i,none⟩ v):RW f w (w.setCell ⟨b,i,none⟩ v):=⟨Dw.set1 w b i v,fun p u hp=>by
 by_cases h:(⟨b,i,none⟩:Addr)=p
 ·subst h;exact .inr ⟨v,World.cell?_setCell_same _ _ _ hp,hf⟩
 ·exact .inl (by rw[World.cell?_setCell_other _ _ _ _ h];exact hp)⟩
theorem Bn.push {w:World}{eb:Nat}{vs:List Int}{x:Int}(h:Bn w eb vs)(hl:vs.length<8)(hx:Bdd x)(b c:Nat)(hb:w.cell? ⟨b,0,none⟩=some (.int .i64 x))(ty:TypeId) :
  ∃w',(Builtin.append_ #[22,22] ty #[.slice (some eb) vs.length 8,.slice (some b) 1 c]).run prog w=.ok (.slice (some eb) (vs.length+1:Nat) 8) w'/\Bn w' eb (vs ++ [x])/\Ext [eb] w w'/\RW (Nr eb vs.length x) w w':=by
 obtain⟨h1,h2,C,h3,h4,h5⟩:=h;obtain⟨i0,a6,a7,a2,a8⟩:=Ht
 have hr:=run_append_room_cells (P:=prog) (w:=w) (ty:=ty) 22 3 i0 underlying22 a6 eb 0 vs.length 8 ⟨b,0,none⟩ 1 c [.int .i64 x] (by rw[a2];rfl) (Kt w b _ hb) (fun u hu=>by rw[jA.1 hu];rfl) (by omega)
  (fun j hj=>by
   rw[h3.cell,a2,Array.getElem?_eq_getElem (by simp at hj;omega)];rfl) (fun j hj=>h3.frozen _)
 rw[a2,Nat.zero_add,Nat.mul_one] at hr;refine⟨w.setCell ⟨eb,vs.length,none⟩ x,hr,⟨by simp;omega,fun v hv=>?_,_,h3.set_ vs.length (.int .i64 x),by simp[h4],fun i y hy=>?_⟩,jL (.inl (by simp)) (jF _ _),RW.set1 ⟨rfl,rfl,rfl⟩⟩
 ·rcases jN.1 hv with hv|hv
  ·exact h2 v hv
  ·rw[jA.1 hv];exact hx
 ·rw[Array.getElem?_setIfInBounds];by_cases hi:vs.length=i
  ·subst hi;rw[jM (jD _),Nat.sub_self] at hy;cases hy
   rw[ijp rfl,ijp (by omega)]
  ·rw[ijn hi];have a1:=(ils hy).1;simp at a1;rw[List.getElem?_append_left (by omega)] at hy;exact h5 i y hy
def Is (eb d:Nat)(vs:List Int):Ba:=⟨Unit,(),fun _=>.slice (some eb) d 8,fun _ w=>Bn w eb vs⟩
theorem Is.stays {eb d d':Nat}{vs:List Int}{x:Int}(hx:∀y,vs[d']? = some y->y=x):∀y w w',RW (Nr eb d' x) w w'->(Is eb d vs).V y w->(Is eb d vs).V y w':=fun _ w w' h k=>Bn.rw k h hx
section
variable {ops:Array Oper} {S:Nat->Option Ba} {Q:Act->World->Prop} {k:Nat} {o:Oper} {rest:List Oper} {a:Act} {F:Nat->World->Prop} {w0:World}
theorem Iq (eb b c d:Nat)(vs:List Int)(x:Int)(s y:Operand)
  (hS:S k=some (Is eb (d+1) (vs ++ [x]))) (hgd:o.guard=none) (ho:o.op=.call {callee:=.builtin .append,args:=#[s,y],argTypes:=#[22,22] })
  (hs:a.eval s=.slice (some eb) d 8) (hx:a.eval y=.slice (some b) 1 c) (hd':vs.length=d) (hl:d<8) (hb:Bdd x)
  (hr:∀w n',JW w0 [eb] (Nr eb d x) (n'+1) w->(∀e∈o.after,Region.binds .any e=true->F e.on w)->Bn w eb vs/\w.cell? ⟨b,0,none⟩=some (.int .i64 x))
  (h:Bj prog ops (JW w0 [eb] (Nr eb d x)) (RW (Nr eb d x)) S Q (k+1) rest (a.put o.dst (.slice (some eb) (d+1:Nat) 8)) (upd F k ((Is eb (d+1) (vs ++ [x])).V ()))) :
  Bj prog ops (JW w0 [eb] (Nr eb d x)) (RW (Nr eb d x)) S Q k (o :: rest) a F:=by
 refine Hl _ hS (by simp[Region.wanted,hgd]) (fun w m hJ hF=>?_) (fun _=>h)
 obtain⟨h1,h2⟩:=hr w m hJ hF;subst hd';obtain⟨w',a1,hE,hX,hW⟩:=h1.push hl hb b c h2 o.type;refine⟨(),w',?_,hE,⟨hJ.1.trans hX,hJ.2.trans hW⟩,hW⟩
 unfold execOp;simp only[ho,resolve,invoke,builtin,Sem.run_bind,Sem.run_pure,Result.andThen_ok,List.map_toArray,List.map_cons,List.map_nil,hs,hx,a1];rfl
end
theorem Ag (w:World)(o:Obj):(w.alloc o).heap.size=w.heap.size+1:=Array.size_push ..
structure Hp (w:World)(n cb:Nat)(bA:Option Addr)(nb bc:Nat)(body:List St)(gs:List Nat)(gA:Option Addr)(gc:Nat)(L:List Nat)(AL:List Value)(sA:Option Addr)(sc:Nat)(v1 av:Value):Prop where
 blk:Blk w cb 174 #[.slice bA nb bc,v1,.slice gA body.length gc,.slice sA L.length sc,av]
 cbn:cb<n
 row:Mz w n [] gA 1 ptC gs
 rowS:Mz w n [] sA 1 ptC L
 rowA:Ed w 0 124 av AL/\∀b,av.ownBlock=some b->b<n
 len:gs.length=body.length
 lenS:L.length=Ab body/\AL.length=Ab body
 cst:∀(i g:Nat) (s:St),gs[i]? = some g->body[i]? = some s->CSt w n [] L AL [] [(i:Int)] [] (Ab (body.take i)) g s
theorem Hp.step {w w':World}{n n' cb:Nat}{bA:Option Addr}{nb bc:Nat}{body:List St}{gs:List Nat}{gA:Option Addr}{gc:Nat}{L:List Nat}{AL:List Value}{sA:Option Addr}{sc:Nat}{v1 av:Value}(h:Hp w n cb bA nb bc body gs gA gc L AL sA sc v1 av){S:List Nat}(hE:Ext S w w')(hS:∀x∈S,n<=x)(hn:n<=n'):Hp w' n' cb bA nb bc body gs gA gc L AL sA sc v1 av:=
 ⟨h.blk.ext hE fun hm=>by have:=hS _ hm;have:=h.cbn;omega,by have:=h.cbn;omega,h.row.step hE (fun x hx=>.inr (hS x hx)) hn (by simp),h.rowS.step hE (fun x hx=>.inr (hS x hx)) hn (by simp),
  ⟨Df h.rowA.1 hE fun b hb hm=>by have:=hS _ hm;have:=h.rowA.2 b hb;omega,fun b hb=>by have:=h.rowA.2 b hb;omega⟩,h.len,h.lenS,fun i g s hg hs=>(h.cst i g s hg hs).step hE (fun x hx=>.inr (hS x hx)) hn (by simp) (fun i g h=>h) fun i g h=>h⟩
set_option maxRecDepth 100000 in
theorem Ye (bA lA:Option Addr)(nb bc lc:Nat)(body:List St)(w:World)(hR:Ak w lA 21 stC body)(hS:∀s∈body,Gc w s)(hF:∀s∈body,Fd nb [] s)(hc:Bk body<=100000)(hs:Ab body<=100000) :
  Calls prog 98 #[.agg #[.slice bA nb bc,.slice lA body.length lc]] w fun e w'=>∃(cb:Nat) (gs:List Nat) (gA:Option Addr) (gc:Nat) (L:List Nat) (AL:List Value) (sA:Option Addr) (sc:Nat) (av:Value),
   e=.returned (.pointer (some cb))/\w.heap.size<=cb/\Ext [] w w'/\Hp w' w'.heap.size cb bA nb bc body gs gA gc L AL sA sc (.slice lA body.length lc) av:=by
 have HR:=hd hR;have HS:=hd hS;have HF:=hd hF;clear hR hS hF;generalize hn:body.length=n at *;have HN:=hd hn;clear hn;go_enter func98,ntmps98
 go_wp2_with fail
 generalize hW:(w.alloc _).alloc _=w2;have ae:Hd (Ext [] w w2):=hd (hW ▸ ((jF [] w).alloc _).alloc _)
 have aq:Hd (Blk w2 (w.heap.size+1) 174 #[.slice bA nb bc,.slice lA n lc,.slice none 0 0,.slice none 0 0,.slice none 0 0]):=hd (by
  have:=jK (w.alloc (.cells #[.slice bA nb bc,.slice lA n lc] 29)) 174 #[.slice bA nb bc,.slice lA n lc,.slice none 0 0,.slice none 0 0,.slice none 0 0];rw[hW,Ag] at this;exact this)
 clear hW
 have HC:=hd (Af2 body 0 lc lA none 0 0 [] none 0 0 [] [] nb 0 (w.heap.size+1) w.heap.size (.slice bA nb bc) (.slice lA n lc) (.slice none 0 0) (.slice none 0 0) (.slice none 0 0) [] [] [] w w2 HR.o HS.o HF.o ae.o (jD _) (by omega) (Ak.nil _ _ _ _)
  ⟨rfl,fun i g nm hg=>by simp at hg⟩ rfl (fun _=>⟨rfl,rfl⟩) (by simp) (Ak.nil _ _ _ _) rfl (fun _=>⟨rfl,rfl⟩) (by omega) ⟨aq.o,Io _ _ _,Io _ _ _⟩ rfl rfl (by omega) (by simp) (fun b o h=>by cases h) (by simp) (fun b o h=>by cases h))
 rw[HN.o] at HC;refine HC.o.mono ?_
 rintro e w3 ⟨v,sv,av,L,AL,gs,rfl,hE,al,hl,am,-,-,an,a7,ao,ap,a8⟩;have au:=hd hE;have a1:=hd al;have HL:=hd (And.intro hl am);have aC:=hd an;have a6:=hd a7;have aw:=hd ao;have aa:=hd ap;have ax:=hd a8;clear hE al hl am an a7 ao ap a8 HC;have ab:gs.length<=1000000:=by rw[aa.o];exact HR.o.1
 obtain⟨gA,gc,rfl,ah,ai⟩:=Nq a6.o ab;obtain⟨sA,sc,rfl,aj,ak⟩:=Nq a1.o.st (by have:=HL.o.1;omega);have qc:=a1.o.blk.cell;have qf:=a1.o.blk.frozen;have aD:=a1.o.blk.lt;have ay:=hd ah;have af:=hd ai;have az:=hd aj;have ag:=hd ak;clear ah ai aj ak;have aA:=hd (a1.o.blk.set_' 2 (.slice gA gs.length gc) #[.slice bA nb bc,.slice lA n lc,.slice gA gs.length gc,.slice sA L.length sc,av] rfl);have a2:=hd (jL (b:=w.heap.size+1) (i:=2) (u:=Value.slice gA gs.length gc) (.inl (by simp)) (jF [w.heap.size+1] w3));go_wp2_with fail
 go_ret
 generalize World.setCell _ _ _=w4 at *
 have aB:Ext [] w w4:=Ea (Ea ae.o au.o fun x hx=>by
  rcases jE.1 hx with h1|h1
  ·omega
  ·exact absurd h1 (by simp[Value.ownBlock])) a2.o fun x hx=>by rw[jA.1 hx];omega
 have aE:=a2.o.size
 have ac:∀b,(Value.slice sA L.length sc).ownBlock=some b->b≠w.heap.size+1:=fun b hb e=>by
  obtain⟨C,hC⟩:=Cl a1.o.st hb;rw[e] at hC;exact absurd (Blk.type hC a1.o.blk) (by decide)
 have ad:∀b,av.ownBlock=some b->b≠w.heap.size+1:=fun b hb e=>by
  obtain⟨C,hC⟩:=Cl a1.o.ar hb;rw[e] at hC;exact absurd (Blk.type hC a1.o.blk) (by decide)
 refine⟨w.heap.size+1,gs,gA,gc,L,AL,sA,sc,av,rfl,by omega,aB,⟨?_,by omega,⟨ay.o.ext a2.o fun x hx b o hA hxb=>?_,fun b o hA=>⟨?_,by simp⟩⟩,⟨az.o.ext a2.o fun x hx b o hA hxb=>?_,fun b o hA=>⟨?_,by simp⟩⟩,
  ⟨Df (Mr a1.o.ar (jQ _)) a2.o fun b hb hm=>ad b hb (jA.1 hm),fun b hb=>?_⟩,by rw[aa.o],⟨by have:=HL.o.1;omega,by have:=HL.o.2;omega⟩,fun i g s hg hs=>?_⟩⟩
 ·have:=aA.o;rw[aa.o] at this;rw[<-HN.o] at this⊢;exact this
 ·have h1:(Value.slice gA gs.length gc).ownBlock=some b:=by rw[af.o,hA];rfl
  exact aw.o b h1 (by rw[<-hxb,jA.1 hx];exact jO ..)
 ·have h1:(Value.slice gA gs.length gc).ownBlock=some b:=by rw[af.o,hA];rfl
  have:=(Bt a6.o h1).2;omega
 ·have h1:(Value.slice sA L.length sc).ownBlock=some b:=by rw[ag.o,hA];rfl
  exact ac b h1 (by rw[<-hxb,jA.1 hx])
 ·have h1:(Value.slice sA L.length sc).ownBlock=some b:=by rw[ag.o,hA];rfl
  have:=(Bt a1.o.st h1).2;omega
 ·have:=(Bt a1.o.ar hb).2;omega
 ·have h1:=ax.o i g s hg hs;rw[Nat.zero_add] at h1;exact h1.step a2.o (fun x hx=>.inl (by rw[jA.1 hx];exact jO ..)) a2.o.size (by simp) (fun i g h=>h) fun i g h=>h
end
def zpV (y:Nat×Ex):Value:=ptV y.1
def zpC (y:Nat×Ex):List Value:=[ptV y.1]
set_option maxRecDepth 100000 in
theorem Af3 (A:Option Addr)(n cap:Nat)(l:List (Nat×Ex))(f:FuncId)(caps:Array Value)(p:Nat×Ex->Bool)(w:World)(h:Ak w A 1 zpC l)(hl:l.length=n)(hf:Iv prog f caps l zpV p w) :
  Calls prog 224 #[.slice A n cap,.func (.func f) #[] caps] w (Xo (l.any p) w):=by
 have a2:n<=1000000:=by have:=h.1;omega
 have HP:=hd h;have HL:=hd hl;have HF:=hd hf;clear h hl hf;go_enter func224,ntmps224
 go_wp2_with fail
 go_loopw [8] (fun i wr=>∃k:Nat,i=.int .i64 k/\k<=n/\Hd (Ext [] w wr)/\Hd (∀(j:Nat) (x:Nat×Ex),j<k->l[j]? = some x->p x=false)) (fun i _=>(n-intOf i).toNat)
 case atStart=>exact⟨0,rfl,jQ _,hd (jF _ _),hd fun j x hj=>absurd hj (by omega)⟩
 case round=>
  obtain⟨k,rfl,hk,HE,HN⟩:=hrel;rename World=>wq
  by_cases a6:k<n
  ·obtain⟨b,⟨x,xe⟩,rfl,hx,hc⟩:=(HP.o.keep HE.o).at (i:=k) (by have:=HL.o;omega);skip
   have g0:=hc 0 _ rfl;simp only[ptV] at g0;rw[Nat.add_zero,Nat.mul_one] at g0;have HQ:=hd (HF.o.2 k _ hx wq HE.o);have HX:=hd hx;clear hx hc;go_wp2_with fail
   rw[HF.o.1,Oper.upon_enter];refine HQ.o.mono ?_
   rintro e w' ⟨rfl,hE⟩;have a1:=hd (HE.o.trans hE);clear hE;generalize hp:p _=t;cases t
   ·have HQ:=hd hp;clear hp;go_wp2_with fail
    go_roundw
    case rel=>
     refine⟨k+1,by go_num,by omega,a1,hd fun j x hj hx=>?_⟩
     rcases Nat.lt_or_ge j k with h1|h1
     ·exact HN.o j x h1 hx
     ·have:j=k:=by omega
      subst this;have:=HX.o.symm.trans hx;cases this
      exact HQ.o
    case measure=>simp[intOf];omega
   ·have HQ:=hd hp;clear hp;go_wp2_with fail
    go_ret
    exact⟨_,rfl,by rw[Ii HX.o HQ.o];simp,a1.o⟩
  ·go_wp2_with fail
   go_ret
   exact⟨_,rfl,by rw[Ep HL.o (fun j x hj hx=>HN.o j x (by omega) hx)];rfl,HE.o⟩
theorem Akc (A:Option Addr)(n cap:Nat)(l:List (Nat×Ex))(f:FuncId)(caps:Array Value)(p:Nat×Ex->Bool)(w:World)(h:Ak w A 1 zpC l)(hl:l.length=n)(hf:Iv prog f caps l zpV p w) :
  Calls prog 194 #[.slice A n cap,.func (.func f) #[] caps] w (Fk (l.any p) w):=by
 have HI:=hd (Af3 A n cap l f caps p w h hl hf);clear h hl hf;go_enter func194,ntmps194
 go_wp2_with fail
 refine HI.o.mono ?_
 rintro e w' ⟨r,rfl,hr,hE⟩;have HR:=hd hr;have HE:=hd hE;clear hr hE;go_wp2_with fail
 go_ret
 exact⟨Aa (by rw[<-HR.o]),HE.o⟩
theorem Af4 {names:List ByteArray}{ts:List (ByteArray×Int)}(h:∀t∈ts,Bdd t.2):∀k,Bdd (Bq names ts k):=by
 have key:∀(ts:List (ByteArray×Int)) (c:Nat->Int),(∀t∈ts,Bdd t.2)->(∀k,Bdd (c k))->∀k,Bdd (ts.foldl (fun c t=>Oa c (plc names t.1) t.2) c k):=by
  intro ts
  induction ts with
  | nil=>intro c _ hc;exact hc
  | cons t ts ih=>
   intro c ht hc;rw[List.foldl_cons];refine ih _ (fun u hu=>ht u (jI _ hu)) fun k=>?_
   simp only[Oa];split
   ·exact ht t (jO ..)
   ·exact hc k
 exact key ts _ h fun k=>⟨by decide,by decide⟩
structure Ld (names:List ByteArray)(a:Af):Prop where
 base:Bdd a.base
 coef:∀k,Bdd (Bq names a.ts k)
 unord:unord a.ts=false
 stray:a.ts.any (Fh names)=false
theorem Qo {x:Int}:bdd x=true ↔ Bdd x:=by unfold bdd Bdd;exact Bu
theorem Ld.of {names:List ByteArray}{a:Af}(h:Cn names a=0):Ld names a:=by
 obtain⟨h1,h2,h3,h4,h5⟩:=Jo h;refine⟨Qo.1 h2,Af4 fun t ht=>?_,h4,h5⟩
 have:=List.any_eq_false.1 h3 t ht;unfold Lg at this;simp at this;exact Qo.1 this.1
theorem Ld.val {names:List ByteArray}{a:Af}(h:Ld names a){vs:List Int}(hl:vs.length=names.length):lnV a.base (Bq names a.ts) vs=evA (names.zip vs) a:=(Afn h.unord h.stray hl).symm
theorem Wo {names:List ByteArray}{a:Af}(h:Ld names a){vs:List Int}(hv:∀v∈vs,Bdd v)(h8:vs.length<=8) : -100000000000<=lnV a.base (Bq names a.ts) vs/\lnV a.base (Bq names a.ts) vs<=100000000000:=Yd h.base h.coef hv _ h8
theorem Ku (g o:Nat)(names:List ByteArray)(a:Af)(eb:Nat)(vs:List Int)(w:World)(hc:∀(j:Nat) (v:Value),(Bl a.base (Bq names a.ts)).toList[j]? = some v->w.cell? ⟨g,o+j,none⟩=some v)(hv:Bn w eb vs)(ha:Ld names a)(hl:vs.length=names.length) :
  Calls prog 149 #[.pointer (some ⟨g,o,none⟩),.slice (some eb) vs.length 8] w fun e w'=>e=.returned (.int .i64 (evA (names.zip vs) a))/\Ext [] w w':=by
 have h:=Akb g o a.base (Bq names a.ts) eb vs w hc hv ha.base ha.coef;rw[ha.val hl] at h;exact h
set_option maxRecDepth 100000 in
theorem Ms (g:Nat)(CA:Option Addr)(n cc:Nat)(h:SH)(names:List ByteArray)(eb:Nat)(vs:List Int)(w:World)(hg:w.cell? ⟨g,3,none⟩=some (.slice CA n cc))(hn:h.conds.length=n)(hc:Ak w CA 9 (lnL names) h.conds)(ha:∀a∈h.conds,Cn names a=0)(hv:Bn w eb vs)(hl:vs.length=names.length) :
  Calls prog 144 #[.pointer (some g),.slice (some eb) vs.length 8] w (Fk (Ec (names.zip vs) h) w):=by
 have ad:n<=1000000:=by have:=hc.1;omega
 have a2:=jB w _ hg;simp only at a2;have HG:=hd hg;have HN:=hd hn;have HC:=hd hc;have HA:=hd ha;have HV:=hd hv;have HL:=hd hl;clear hg hn hc ha hv hl;generalize aa:vs.length=d at *;have HD:=hd aa;clear aa;have qg:=HG.o;go_enter func144,ntmps144
 go_wp2_with fail
 clear qg;go_loopw [11] (fun i wr=>∃k:Nat,i=.int .i64 k/\k<=n/\Hd (Ext [] w wr)/\Hd (∀(j:Nat) (x:Af),j<k->h.conds[j]? = some x->0<=evA (names.zip vs) x)) (fun i _=>(n-intOf i).toNat)
 case atStart=>exact⟨0,rfl,jQ _,hd (jF _ _),hd fun j x hj=>absurd hj (by omega)⟩
 case round=>
  obtain⟨k,rfl,hk,HE,HK⟩:=hrel;rename World=>wq
  by_cases af:k<n
  ·have a6:(k:Int)<(n:Int):=by omega
   obtain⟨b,x,rfl,hx,a1⟩:=(HC.o.keep HE.o).at (i:=k) (by have:=HN.o;omega);have qg:wq.cell? ⟨g,3,none⟩=some (.slice (some b) n cc):=HE.o.held HG.o (by simp);have HX:=hd hx;have q9:=a1 0 _ rfl;have ac:=jB wq _ q9;have ae:g<wq.heap.size:=nl a2 HE.o.size;simp only at ac;clear q9;have HQ:=hd (Ku b (k*9) names x eb vs wq a1 (HV.o.keep HE.o (by simp)) (Ld.of (HA.o x (ilm hx))) (by have:=HL.o;have:=HD.o;omega));clear hx a1;rw[HD.o] at HQ;generalize ab:evA (names.zip vs) x=ev at *;have a7:=hd ab;clear ab;go_wp2_with fail
   refine HQ.o.mono ?_
   rintro e w' ⟨rfl,hE⟩;have a8:=hd (HE.o.trans hE);clear hE HQ;by_cases h0:ev<0
   ·have h1:decide (ev<0)=true:=by simpa using h0
    have H0:=hd h0;clear h0;go_wp2_with fail
    go_ret
    refine⟨Aa ?_,a8.o⟩
    unfold Ec;rw[List.all_eq_false.2 ⟨x,ilm HX.o,by rw[a7.o];have:=H0.o;simp;omega⟩]
   ·have h1:decide (ev<0)=false:=by simpa using h0
    have H0:=hd h0;clear h0;go_wp2_with fail
    go_roundw
    case rel=>
     refine⟨k+1,by go_num,by omega,a8,hd fun j y hj hy=>?_⟩
     rcases Nat.lt_or_ge j k with h1|h1
     ·exact HK.o j y h1 hy
     ·have:j=k:=by omega
      subst this;have:=HX.o.symm.trans hy;cases this
      rw[a7.o];have:=H0.o;omega
    case measure=>simp[intOf];omega
  ·have a6:k=n:=by omega
   subst a6;go_wp2_with fail
   go_ret
   refine⟨Aa ?_,HE.o⟩
   unfold Ec;symm
   rw[List.all_eq_true];intro x hx;obtain⟨j,hj,rfl⟩:=List.getElem_of_mem hx;have:=HK.o j _ (by have:=HN.o;omega) (jJ hj);simpa using this
def Adr (w:World)(cb:Nat)(bs:List Bf):Prop:=∃(bA:Option Addr) (bc:Nat),w.cell? ⟨cb,0,none⟩=some (.slice bA bs.length bc)/\Ak w bA 4 bfC bs/\∀b∈bs,1<=b.size/\b.size<=262144
theorem Adr.keep {w w':World}{cb:Nat}{bs:List Bf}(h:Adr w cb bs)(hE:Ext [] w w'):Adr w' cb bs:=by
 obtain⟨bA,bc,h1,h2,h3⟩:=h;exact⟨bA,bc,hE.held h1 (by simp),h2.keep hE,h3⟩
theorem Kc {bs:List Bf}{k:Int}{b:Bf}(h0:0<=k)(h:bs[k.toNat]? = some b):Hj bs k=b.size:=by unfold Hj;rw[h];rfl
structure Tv (names:List ByteArray)(nb:Nat)(h:EH)(ks:List Ex):Prop where
 aff:Ld names h.at_
 kind:h.k=1\/h.k=2\/h.k=3\/h.k=4\/h.k=5
 none:h.k=1\/h.k=2\/h.k=3->ks=[]
 one:h.k=4->ks.length=1/\(1<=h.n/\h.n<=100000)/\(1<=h.m/\h.m<=262144)/\Dt h.lo=true
 buf:h.k=3\/h.k=4->0<=h.buf/\h.buf<nb
 kids:∀e∈ks,Bs names nb e=0
 num:h.k=1->Dt h.n=true
theorem Tv.of {names:List ByteArray}{nb:Nat}{h:EH}{ks:List Ex}(hx:Bs names nb (.mk h ks)=0):Tv names nb h ks:=by
 obtain⟨h1,h2⟩:=Kp hx;obtain⟨h3,h4,h5,h6,h7⟩:=Nn h1;have hk:=Kq h3
 have h8:(ks.length:Int)=Bp h.k h.op:=by
  unfold Hi at h4;simp only[Bool.and_eq_true,decide_eq_true_eq] at h4;exact h4.2
 refine⟨Ld.of h7,hk,fun hh=>?_,fun hh=>?_,fun hh=>?_,h2,fun hh=>?_⟩
 ·have:Bp h.k h.op=0:=by rcases hh with hh|hh|hh<;>(rw[hh];simp[Bp])
  rw[this] at h8;exact List.length_eq_zero_iff.1 (by omega)
 ·have e:Bp h.k h.op=1:=by rw[hh];simp[Bp]
  rw[e] at h8;unfold Fi at h5;rw[ijn (by omega),ijp hh] at h5;simp only[Bool.and_eq_true,Bu] at h5;exact⟨by omega,h5.1.2,h5.2,h5.1.1⟩
 ·unfold Afa at h6;simp only[decide_eq_false_iff_not,not_and,Classical.not_not] at h6;have:=h6 hh;omega
 ·unfold Fi at h5;rw[ijp hh] at h5;exact h5
theorem Yf {bs:List Bf}{env:Env}:∀(gs:List Nat) (ks:List Ex),gs.length=ks.length->((gs.zip ks).any fun y=>!inE bs env y.2) = !Ox bs env ks
 | [],[],_=>rfl
 | g :: gs,e :: ks,h=>by
  simp only[List.zip_cons_cons,List.any_cons,Ox];rw[Yf gs ks (by simpa using h)];cases inE bs env e<;>simp
theorem Akd {w:World}{A:Option Addr}{gs:List Nat}{ks:List Ex}(h:Ak w A 1 ptC gs)(hl:gs.length=ks.length):Ak w A 1 zpC (gs.zip ks):=by
 obtain⟨h1,h2⟩:=h;refine⟨by rw[List.length_zip];omega,?_⟩
 rcases h2 with h2|⟨b,rfl,hc⟩
 ·left;rw[h2];rfl
 ·refine .inr ⟨b,rfl,fun i x hx j v hv=>?_⟩
  obtain⟨h3,h4⟩:=List.getElem?_zip_eq_some.1 hx;exact hc i x.1 h3 j v hv
theorem Wp:∀args w,(callFunc 195 args).run prog w=.ok (.enter 195 args) w:=by
 obtain⟨c,hc⟩:∃c,Tryz.f195.body=some c:=⟨_,rfl⟩;exact fun args w=>enters_of func195 (by kernel_rfl) hc args w
theorem Ads (g b3 b5 cb eb d:Nat)(w:World)(t:Bool)(h3:w.cell? ⟨b3,0,none⟩=some (.pointer (some cb)))(h5:w.cell? ⟨b5,0,none⟩=some (.slice (some eb) d 8))
  (hc:Calls prog 150 #[.pointer (some cb),ptV g,.slice (some eb) d 8] w (Fk t w)) :
  Calls prog 195 (#[ptV g] ++ #[.pointer (some b3),.pointer (some b5)]) w (Fk (!t) w):=by
 have l3:=jB w _ h3;have l5:=jB w _ h5;simp only at l3 l5;have HC:=hd hc;clear hc;go_enter func195,ntmps195
 go_wp2_with fail
 refine HC.o.mono ?_
 rintro e w' ⟨rfl,hE⟩;go_wp2_with fail
 go_ret
 exact⟨rfl,hE⟩
set_option maxRecDepth 100000 in
theorem Af5 (bs:List Bf)(cb eb:Nat)(names:List ByteArray)(vs:List Int)(hl:vs.length=names.length):∀e:Ex,Bs names bs.length e=0->∀(g n:Nat) (T:List Nat) (w:World),CEx w n T names g e->Adr w cb bs->Bn w eb vs->
  Calls prog 150 #[.pointer (some cb),ptV g,.slice (some eb) vs.length 8] w (Fk (inE bs (names.zip vs) e) w):=by
 refine Gs fun h ks ih=>?_
 intro hx g n T w hC hB hV;have HI:=hd ih;have HO:=hd (Tv.of hx);have HB:=hd hB;have HV:=hd hV;have HL:=hd hl;have HC:=hd hC;clear ih hx hB hV hC
 obtain⟨pb,po,A,cap,gs,hg,hp,hk,ay,hs⟩:∃(pb po:Nat) (A:Option Addr) (cap:Nat) (gs:List Nat),Blk w g 271 (Jy pb po h.at_.base (Bq names h.at_.ts) (.slice A ks.length cap))/\(∀(j:Nat) (v:Value),(exH h ks.length)[j]? = some v->w.cell? ⟨pb,po+j,none⟩=some v)/\Ak w A 1 ptC gs/\gs.length=ks.length/\∀(i g':Nat) (e':Ex),gs[i]? = some g'->ks[i]? = some e'->CEx w n T names g' e':=by
  have:=HC.o;cases this
  exact⟨_,_,_,_,_,by assumption,by assumption,by assumption,by assumption,by assumption⟩
 have HG:=hd hg;have HP:=hd hp;have HK:=hd hk;have ax:=hd ay;have HS:=hd hs;clear hg hp hk ay hs;generalize aJ:vs.length=d at *;have HD:=hd aJ;clear aJ hl
 have aK:Hd (∀(j:Nat) (v:Value),(Bl h.at_.base (Bq names h.at_.ts)).toList[j]? = some v->w.cell? ⟨g,1+j,none⟩=some v):=hd fun j v hv=>by
  rw[HG.o.cell];have h9:=(ils hv).1;have:j=0\/j=1\/j=2\/j=3\/j=4\/j=5\/j=6\/j=7\/j=8:=by simp[Bl] at h9;omega
  rcases this with rfl|rfl|rfl|rfl|rfl|rfl|rfl|rfl|rfl<;>exact hv
 have ay:=HG.o.lt;unfold ptV;go_enter func150,ntmps150
 go_wp2_with fail
 have aI:=hd (((jF [] w).alloc (.cells #[.pointer (some cb)] 91)).alloc (.cells #[.slice (some eb) d 8] 22));have a8:=hd ((jK w 91 #[.pointer (some cb)]).ext ((jF [] _).alloc (.cells #[.slice (some eb) d 8] 22)) (by simp));have aa:=hd (jK (w.alloc (.cells #[.pointer (some cb)] 91)) 22 #[.slice (some eb) d 8]);rw[Ag] at aa;generalize World.alloc (World.alloc w _) _=w2 at *;generalize w.heap.size=b3 at *;have ag:=hd (fun W (hW:Ext [] w W)=>Ku g 1 names h.at_ eb vs W (fun j v hv=>hW.held (aK.o j v hv) (by simp)) (HV.o.keep hW (by simp)) HO.o.aff (by rw[HD.o];exact HL.o))
 have ah:Hd (-100000000000<=evA (names.zip vs) h.at_/\evA (names.zip vs) h.at_<=100000000000):=hd (by
  rw[<-HO.o.aff.val (by rw[HD.o];exact HL.o)];exact Wo HO.o.aff HV.o.2.1 HV.o.1)
 rw[HD.o] at ag;refine rgE 4 [] ?_
 simp only[TK]
 repeat(refine dE (fun wr nr hJ=>by(have q5:=(aa.o.ext hJ (by simp)).cell 0;have aY:=(aa.o.ext hJ (by simp)).lt);clear hJ;exact CL) ?_;simp only[PT])
 refine Aj (fun w3 hJ hF=>?_)
 have az:=hd (aI.o.trans hJ);have ai:=hd (a8.o.ext hJ (by simp));have aj:=hd (aa.o.ext hJ (by simp));clear hF hJ aI a8 aa;go_wp2_with fail
 refine(ag.o w3 az.o).mono ?_
 rintro e w4 ⟨rfl,hE⟩;have a1:=hd (az.o.trans hE);have a8:=hd (ai.o.ext hE (by simp));have aa:=hd (aj.o.ext hE (by simp));clear hE az ai aj;have a7:Hd (inE bs (names.zip vs) (.mk h ks)=(inX bs (names.zip vs) h&&Ox bs (names.zip vs) ks)):=hd (by rw[inE]);rw[a7.o];generalize hA:evA (names.zip vs) h.at_=av at *;have aA:=hd hA;clear hA;have aZ:w4.cell? ⟨g,0,none⟩=some (.pointer (some ⟨pb,po,none⟩)):=(HG.o.ext a1.o (by simp)).cell 0;have aL:w4.cell? ⟨g,10,none⟩=some (.slice A ks.length cap):=(HG.o.ext a1.o (by simp)).cell 10;have b0:=(HG.o.ext a1.o (by simp)).lt;have qk:w4.cell? ⟨pb,po,none⟩=some (.int .i64 h.k):=a1.o.held (HP.o 0 _ rfl) (by simp);have aM:=jB w4 _ qk;simp only at aM
 have a2:Hd (∀W,Ext [] w4 W->Calls prog 194 #[.slice A ks.length cap,.func (.func 195) #[] #[.pointer (some b3),.pointer (some ⟨b3+1,0,none⟩)]] W (Fk (!Ox bs (names.zip vs) ks) W)):=hd fun W hW=>by
  have aN:=a1.o.trans hW;have hz:=Akd (HK.o.keep aN) ax.o;have:=Akc A ks.length cap (gs.zip ks) 195 #[.pointer (some b3),.pointer (some ⟨b3+1,0,none⟩)] (fun y=>!inE bs (names.zip vs) y.2) W hz (by rw[List.length_zip,ax.o,Nat.min_self]) ⟨Wp,fun i x hx w' hE=>?_⟩
  ·rw[Yf gs ks ax.o] at this;exact this
  ·obtain⟨h1,h2⟩:=List.getElem?_zip_eq_some.1 hx;have hw':=hW.trans hE;have hm:=ilm h2;exact Ads x.1 b3 (b3+1) cb eb d w' _ ((a8.o.ext hw' (by simp)).cell 0) ((aa.o.ext hw' (by simp)).cell 0) (HI.o x.2 hm (HO.o.kids x.2 hm) x.1 n T w' ((HS.o i x.1 x.2 h1 h2).step (a1.o.trans hw') (by simp) (jD n) fun y hy=>.inl hy) (HB.o.keep (a1.o.trans hw')) (HV.o.keep (a1.o.trans hw') (by simp)))
 by_cases h2:h.k=2
 ·have aO:=HO.o.none (by omega);subst aO;have a6:Hd (inX bs (names.zip vs) h=Dt av):=hd (by unfold inX;rw[ijp h2,aA.o]);clear a2;go_wp2_with fail
  refine(Kr av w4).mono ?_
  rintro e w5 ⟨rfl,rfl⟩;go_wp2_with fail
  go_ret
  exact⟨Aa (by rw[a7.o,a6.o];simp[Ox]),a1.o⟩
 ·have e2:(h.k==2)=false:=by simpa using h2
  by_cases h3:h.k=3
  ·have e3:(h.k==3)=true:=by simpa using h3
   have e4:(h.k==4)=false:=by simp;omega
   obtain⟨bA,bc,ap,aq,au⟩:=HB.o.keep a1.o;have ak:=HO.o.buf (by omega);obtain⟨bi,ad⟩:∃bi:Nat,h.buf=bi:=⟨h.buf.toNat,by omega⟩;have al:bi<bs.length:=by omega
   obtain⟨bb,x,rfl,ae,aw⟩:=aq.at al;have aP:=au x (ilm ae);have aB:Hd (Hj bs h.buf=x.size):=hd (Kc ak.1 (by rw[ad];exact ae));have q6:w4.cell? ⟨pb,po+6,none⟩=some (.int .i64 bi):=by rw[<-ad];exact a1.o.held (HP.o 6 _ rfl) (by simp)
   have qs:w4.cell? ⟨bb,bi*4+1,none⟩=some (.int .i64 x.size):=aw 1 _ rfl;have aC:=jB w4 _ qs;have qc:=ap;have aD:=jB w4 _ qc;simp only at aC aD;generalize aG:bs.length=nb at qc al;have aQ:(bi:Int)<(nb:Int):=by omega
   generalize aH:x.size=sz at *;clear ap aq au ak ad aw ae aH aG x;have a6:Hd (inX bs (names.zip vs) h=(decide (0<=av)&&decide (av<sz))):=hd (by unfold inX;rw[ijn h2,ijp h3,aA.o,aB.o]);have am:Hd (∀n,Ext [] w (w4.drewN n)):=hd fun n=>a1.o.drewN _
   have an:Hd (∀n,Ext [] w4 (w4.drewN n)):=hd fun n=>(jF _ _).drewN _
   generalize h.k=hk at *;clear h2 h3;go_upto_region 10 with fail
   have aE:=ah.o;have q3:w4.cell? ⟨b3,0,none⟩=some (.pointer (some cb)):=a8.o.cell 0;have aR:=a8.o.lt;by_cases ha:av<0
   ·have e1:decide (av<0)=true:=by simpa using ha
    have ab:=hd ha;clear ha;go_quiet (fail)
    go_wp2_with fail
    go_ret
    refine⟨Aa ?_,by first|exact am.o _|exact(a1.o.drewN _).drewN _⟩
    rw[a7.o,a6.o];have:decide (0<=av)=false:=by have:=ab.o;simp;omega
    rw[this];simp
   ·have e1:decide (av<0)=false:=by simpa using ha
    have ab:Hd (decide (0<=av)=true):=hd (by simp;omega);clear ha;by_cases hb:sz<=av
    ·have e5:decide (sz<=av)=true:=by simpa using hb
     have ac:Hd (decide (av<sz)=false):=hd (by simp;omega);clear hb;go_quiet (fail)
     go_wp2_with fail
     go_ret
     refine⟨Aa ?_,by first|exact am.o _|exact(a1.o.drewN _).drewN _⟩
     rw[a7.o,a6.o,ac.o];simp
    ·have e5:decide (sz<=av)=false:=by simpa using hb
     have ac:Hd (decide (av<sz)=true):=hd (by simp;omega);clear hb;go_quiet (fail)
     go_wp2_with fail
     refine(a2.o _ (an.o _)).mono ?_
     rintro e w6 ⟨rfl,hE⟩;have ao:=hd (a1.o.trans ((an.o _).trans hE));clear hE a2;go_wp2_with fail
     go_ret
     refine⟨Aa ?_,ao.o⟩
     rw[a7.o,a6.o];simp[ab.o,ac.o]
  ·have e3:(h.k==3)=false:=by simpa using h3
   by_cases h4:h.k=4
   ·have e4:(h.k==4)=true:=by simpa using h4
    obtain⟨bA,bc,ap,aq,au⟩:=HB.o.keep a1.o;have ak:=HO.o.buf (by omega);obtain⟨bi,ad⟩:∃bi:Nat,h.buf=bi:=⟨h.buf.toNat,by omega⟩;have al:bi<bs.length:=by omega
    obtain⟨bb,x,rfl,ae,aw⟩:=aq.at al;have aP:=au x (ilm ae);have aB:Hd (Hj bs h.buf=x.size):=hd (Kc ak.1 (by rw[ad];exact ae));have q6:w4.cell? ⟨pb,po+6,none⟩=some (.int .i64 bi):=by rw[<-ad];exact a1.o.held (HP.o 6 _ rfl) (by simp)
    have qs:w4.cell? ⟨bb,bi*4+1,none⟩=some (.int .i64 x.size):=aw 1 _ rfl;have aC:=jB w4 _ qs;have qc:=ap;have aD:=jB w4 _ qc;simp only at aC aD;generalize aG:bs.length=nb at qc al;have aQ:(bi:Int)<(nb:Int):=by omega
    generalize aH:x.size=sz at *;clear ap aq au ak ad aw ae aH aG x;have aF:=HO.o.one h4;have a6:Hd (inX bs (names.zip vs) h=(decide (0<=av)&&decide (av+h.n*(h.m-1)<sz))):=hd (by unfold inX;rw[ijn h2,ijn h3,ijp h4,aA.o,aB.o]);have qn:w4.cell? ⟨pb,po+4,none⟩=some (.int .i64 h.n):=a1.o.held (HP.o 4 _ rfl) (by simp);have qm:w4.cell? ⟨pb,po+5,none⟩=some (.int .i64 h.m):=a1.o.held (HP.o 5 _ rfl) (by simp);have b1:0<=h.n*(h.m-1)/\h.n*(h.m-1)<=100000*262144:=⟨Int.mul_nonneg (by omega) (by omega),Int.mul_le_mul (by omega) (by omega) (by omega) (by omega)⟩;generalize af:h.n*(h.m-1)=pr at *;obtain⟨-,⟨n1,n2⟩,⟨m1,m2⟩,-⟩:=aF;generalize h.n=en at *;generalize h.m=em at *;generalize h.k=hk at *;clear h2 h3 h4;have aS : -9223372036854775808<=en*(em-1):=by rw[af];omega
    have aT:en*(em-1)<=9223372036854775807:=by rw[af];omega
    have aU : -9223372036854775808<=av+en*(em-1):=by rw[af];have:=ah.o.1;omega
    have aV:av+en*(em-1)<=9223372036854775807:=by rw[af];have:=ah.o.2;omega
    have aW:=hd af;have aX:=ah.o;go_upto_region 9 with fail
    clear af;go_quiet (fail)
    rw[aW.o];go_upto_region 10 with fail
    have am:Hd (∀n,Ext [] w (w4.drewN n)):=hd fun n=>a1.o.drewN _
    have an:Hd (∀n,Ext [] w4 (w4.drewN n)):=hd fun n=>(jF _ _).drewN _
    have aE:=ah.o;have q3:w4.cell? ⟨b3,0,none⟩=some (.pointer (some cb)):=a8.o.cell 0;have aR:=a8.o.lt;by_cases ha:av<0
    ·have e1:decide (av<0)=true:=by simpa using ha
     have ab:=hd ha;clear ha;go_quiet (fail)
     go_wp2_with fail
     go_ret
     refine⟨Aa ?_,by first|exact am.o _|exact(a1.o.drewN _).drewN _⟩
     rw[a7.o,a6.o];have:decide (0<=av)=false:=by have:=ab.o;simp;omega
     rw[this];simp
    ·have e1:decide (av<0)=false:=by simpa using ha
     have ab:Hd (decide (0<=av)=true):=hd (by simp;omega);clear ha;by_cases hb:sz<=(av+pr)
     ·have e5:decide (sz<=(av+pr))=true:=by simpa using hb
      have ac:Hd (decide ((av+pr)<sz)=false):=hd (by simp;omega);clear hb;go_quiet (fail)
      go_wp2_with fail
      go_ret
      refine⟨Aa ?_,by first|exact am.o _|exact(a1.o.drewN _).drewN _⟩
      rw[a7.o,a6.o,ac.o];simp
     ·have e5:decide (sz<=(av+pr))=false:=by simpa using hb
      have ac:Hd (decide ((av+pr)<sz)=true):=hd (by simp;omega);clear hb;go_quiet (fail)
      go_wp2_with fail
      refine(a2.o _ (an.o _)).mono ?_
      rintro e w6 ⟨rfl,hE⟩;have ao:=hd (a1.o.trans ((an.o _).trans hE));clear hE a2;go_wp2_with fail
      go_ret
      refine⟨Aa ?_,ao.o⟩
      rw[a7.o,a6.o];simp[ab.o,ac.o]
   ·have e4:(h.k==4)=false:=by simpa using h4
    have a6:Hd (inX bs (names.zip vs) h=true):=hd (by unfold inX;rw[ijn h2,ijn h3,ijn h4]);generalize h.k=hk at *;clear h2 h3 h4;go_wp2_with fail
    refine(a2.o _ (jF [] w4)).mono ?_
    rintro e w6 ⟨rfl,hE⟩;have ao:=hd (a1.o.trans ((jF [] w4).trans hE));clear hE a2;go_wp2_with fail
    go_ret
    refine⟨Aa ?_,ao.o⟩
    rw[a7.o,a6.o];simp
section
structure Lx (w:World)(g:Nat)(names:List ByteArray)(nb:Nat)(h:SH)(no:Nat):Prop where
 ptr:∃(pb po:Nat) (vb n:Nat) (T:List Nat),w.cell? ⟨g,0,none⟩=some (.pointer (some ⟨pb,po,none⟩))/\w.cell? ⟨pb,po+8,none⟩=some (.int .i64 h.buf)/\w.cell? ⟨g,16,none⟩=some (ptV vb)/\CEx w n T names vb h.val
 line:∀(j:Nat) (v:Value),(Bl h.at_.base (Bq names h.at_.ts)).toList[j]? = some v->w.cell? ⟨g,7+j,none⟩=some v
 no:w.cell? ⟨g,5,none⟩=some (.int .i64 no)
 aff:Cn names h.at_=0
 val:Bs names nb h.val=0
 buf:0<=h.buf/\h.buf<nb
attribute [local irreducible] Bj
set_option maxRecDepth 100000 in
theorem Aat (bs:List Bf)(cb eb:Nat)(names:List ByteArray)(vs:List Int)(hl:vs.length=names.length)(g:Nat)(h:SH)(no:Nat)(w:World)(hS:Lx w g names bs.length h no)(hB:Adr w cb bs)(hV:Bn w eb vs) :
  Calls prog 102 #[.pointer (some cb),ptV g,.slice (some eb) vs.length 8] w (Fk (inI bs ⟨no,h,names.zip vs⟩) w):=by
 have HB:=hd hB;have HV:=hd hV;have HL:=hd hl;have ah:=hd (Ld.of hS.aff);have HS:=hd hS;obtain⟨⟨pb,po,vb,n,T,h0,h8,az,hx⟩,aj,-,-,a2,af⟩:=hS;have HX:=hd hx;have aO:=hd aj;have aP:=hd a2;have aE:=hd (fun W (hW:Ext [] w W)=>Af5 bs cb eb names vs hl h.val a2 vb n T W (hx.step hW (by simp) (jD n) fun y hy=>.inl hy) (hB.keep hW) (hV.keep hW (by simp)));have a7:=hd (Ku g 7 names h.at_ eb vs w aj hV ah.o hl)
 have aQ:Hd (-100000000000<=evA (names.zip vs) h.at_/\evA (names.zip vs) h.at_<=100000000000):=hd (by
  rw[<-ah.o.val hl];exact Wo ah.o hV.2.1 hV.1)
 have ag:Hd (inI bs ⟨no,h,names.zip vs⟩=(decide (0<=evA (names.zip vs) h.at_)&&decide (evA (names.zip vs) h.at_<Hj bs h.buf)&&inE bs (names.zip vs) h.val)):=hd rfl;have an:=jB w _ h0;have ao:=jB w _ h8;simp only at an ao;have H0:=hd h0;have H8:=hd h8;have aF:=hd az;have ai:=hd af;clear hl hB hV hx aj a2 h0 h8 az af;generalize aD:vs.length=d at *;have HD:=hd aD;clear aD;generalize hA:evA (names.zip vs) h.at_=av at *;have aR:=hd hA;clear hA;obtain⟨bA,bc,ak,aA,aB⟩:=HB.o;obtain⟨bi,al⟩:∃bi:Nat,h.buf=bi:=⟨h.buf.toNat,by have:=ai.o;omega⟩;have aG:bi<bs.length:=by have:=ai.o;omega
 obtain⟨bb,x,rfl,am,aC⟩:=aA.at aG;have aS:=aB x (ilm am);have aH:Hd (Hj bs h.buf=x.size):=hd (Kc ai.o.1 (by rw[al];exact am));have q6:w.cell? ⟨pb,po+8,none⟩=some (.int .i64 bi):=by rw[<-al];exact H8.o
 have qs:w.cell? ⟨bb,bi*4+1,none⟩=some (.int .i64 x.size):=aC 1 _ rfl;have ap:=jB w _ qs;have aq:=jB w _ ak;simp only at ap aq;have aI:=hd ak;rw[aH.o] at ag;generalize aM:bs.length=nb at *;have aT:(bi:Int)<(nb:Int):=by omega
 generalize aN:x.size=sz at *;have aJ:=hd q6;have aK:=hd qs;clear ak aA aB al aC am aN aM q6 qs;unfold ptV;go_enter func102,ntmps102
 go_wp2_with fail
 refine a7.o.mono ?_
 rintro e w1 ⟨rfl,hE⟩;have a1:=hd hE;clear hE a7;have au:=hd (a1.o.held H0.o (by simp));have a8:=hd (a1.o.held aF.o (by simp));have aw:=hd (a1.o.held aI.o (by simp));have ax:=hd (a1.o.held aJ.o (by simp));have ay:=hd (a1.o.held aK.o (by simp));have aa:=nl an a1.o.size;have ab:=nl ao a1.o.size;have ac:=nl ap a1.o.size;have ad:=nl aq a1.o.size;by_cases ha:av<0
 ·have e1:decide (0<=av)=false:=by simp;omega
  have ae:Hd (inI bs ⟨no,h,names.zip vs⟩=false):=hd (by rw[ag.o,e1];simp);go_wp2_with fail
  refine rgE 28 [] ?_
  simp only[TK]
  repeat(refine dE (fun wr nr hJ=>by clear hJ;exact CL) ?_;simp only[PT])
  iterate 17
   refine Im rfl ?_
   simp only[PT]
  repeat(refine dE (fun wr nr hJ=>by clear hJ;exact CL) ?_;simp only[PT])
  iterate 6
   refine Im rfl ?_
   simp only[PT]
  refine Aj (fun w3 hJ hF=>?_)
  have a6:=hd (a1.o.trans hJ);clear hF hJ;go_wp2_with fail
  go_ret
  exact⟨Aa ae.o.symm,a6.o⟩
 ·have e1:decide (0<=av)=true:=by simp;omega
  by_cases hb:av<sz
  ·have e2:decide (av<sz)=true:=by simpa using hb
   have ae:Hd (inI bs ⟨no,h,names.zip vs⟩=inE bs (names.zip vs) h.val):=hd (by rw[ag.o,e1,e2];simp);go_wp2_with fail
   refine rgE 28 [] ?_
   simp only[TK]
   repeat(refine dE (fun wr nr hJ=>by(have qg:=Ext.held hJ au.o (by simp);have qv:=Ext.held hJ a8.o (by simp);have qc:=Ext.held hJ aw.o (by simp);have qb:=Ext.held hJ ax.o (by simp);have qs:=Ext.held hJ ay.o (by simp);have lg:=nl aa hJ.size;have lp:=nl ab hJ.size;have lb:=nl ac hJ.size;have lc:=nl ad hJ.size);clear hJ;exact CL) ?_;simp only[PT])
   refine Aj (fun w3 hJ hF=>?_)
   have a6:=hd (a1.o.trans hJ);clear hF hJ;go_wp2_with fail
   refine(aE.o w3 a6.o).mono ?_
   rintro e w4 ⟨rfl,hE⟩;have aL:=hd (a6.o.trans hE);clear hE;go_wp2_with fail
   go_ret
   exact⟨Aa ae.o.symm,aL.o⟩
  ·have e2:decide (av<sz)=false:=by simpa using hb
   have ae:Hd (inI bs ⟨no,h,names.zip vs⟩=false):=hd (by rw[ag.o,e1,e2];simp);go_wp2_with fail
   refine rgE 28 [] ?_
   simp only[TK]
   repeat(refine dE (fun wr nr hJ=>by(have qg:=Ext.held hJ au.o (by simp);have qv:=Ext.held hJ a8.o (by simp);have qc:=Ext.held hJ aw.o (by simp);have qb:=Ext.held hJ ax.o (by simp);have qs:=Ext.held hJ ay.o (by simp);have lg:=nl aa hJ.size;have lp:=nl ab hJ.size;have lb:=nl ac hJ.size;have lc:=nl ad hJ.size);clear hJ;exact CL) ?_;simp only[PT])
   iterate 6
    refine Im rfl ?_
    simp only[PT]
   refine Aj (fun w3 hJ hF=>?_)
   have a6:=hd (a1.o.trans hJ);clear hF hJ;go_wp2_with fail
   go_ret
   exact⟨Aa ae.o.symm,a6.o⟩
end
def rdX (h:EH):Nat:=if h.k=3 then 1 else if h.k=4 then h.m.toNat else 0
mutual
def rdE:Ex->Nat|.mk h ks=>rdX h+Fb ks
def Fb:List Ex->Nat | []=>0|e :: r=>rdE e+Fb r
end
theorem Py (a b:List Ex):Fb (a ++ b)=Fb a+Fb b:=by
 induction a with
 | nil=>simp[Fb]
 | cons e a ih=>simp only[List.cons_append,Fb,ih];omega
theorem Vi {l:List Ex}{j:Nat}{e:Ex}(h:l[j]? = some e):Fb (l.take (j+1))=Fb (l.take j)+rdE e:=by
 rw[List.take_add_one,h,Py];simp[Fb]
theorem Acy {l:List Ex}{j:Nat}:Fb (l.take j)<=Fb l:=by
 have:=Py (l.take j) (l.drop j);rw[List.take_append_drop] at this;omega
mutual
theorem Abg {names:List ByteArray}{nb:Nat}:∀e:Ex,Bs names nb e=0->rdE e<=262144*Al e
 | .mk h ks,hx=>by
  have h1:=Acz ks (Kp hx).2
  have h2:rdX h<=262144:=by
   unfold rdX;split
   ·omega
   split
   ·rename_i h4
    have:=((Tv.of hx).one h4).2.2.1;omega
   ·omega
  simp only[rdE,Al];omega
theorem Acz {names:List ByteArray}{nb:Nat}:∀l:List Ex,(∀e∈l,Bs names nb e=0)->Fb l<=262144*Ap l
 | [],_=>by simp[Fb]
 | e :: l,hx=>by
  have h1:=Abg e (hx e (jO ..));have h2:=Acz l fun e he=>hx e (jI _ he)
  simp only[Fb,Ap];omega
end
set_option maxRecDepth 100000 in
theorem Vj (names:List ByteArray)(nb:Nat):∀e:Ex,Bs names nb e=0->Al e<=1000000->∀(cn:List ByteArray) (g n:Nat) (T:List Nat) (w:World),CEx w n T cn g e->
  Calls prog 137 #[ptV g] w fun r w'=>r=.returned (.int .i64 (rdE e:Nat))/\Ext [] w w':=by
 refine Gs fun h ks ih=>?_
 intro hx hp cn g n T w hC;have HI:=hd ih;have HO:=hd (Tv.of hx);have a2:=Abg _ hx;have ak:rdE (.mk h ks)<=262144000000:=nt a2 (Nat.mul_le_mul_left 262144 hp);have a8:Hd (rdE (.mk h ks)=rdX h+Fb ks):=hd (by rw[rdE]);have aC:Ap ks<=1000000:=by rw[Al] at hp;omega
 have al:=hd (fun j e (hj:ks[j]? = some e)=>(show Al e<=1000000 by
  have h1:=Dl hj;have h2:Ap (ks.take (j+1))<=Ap ks:=Gw;omega))
 obtain⟨pb,po,A,cap,gs,hg,ae,hk,af,hs⟩:∃(pb po:Nat) (A:Option Addr) (cap:Nat) (gs:List Nat),Blk w g 271 (Jy pb po h.at_.base (Bq cn h.at_.ts) (.slice A ks.length cap))/\(∀(j:Nat) (v:Value),(exH h ks.length)[j]? = some v->w.cell? ⟨pb,po+j,none⟩=some v)/\Ak w A 1 ptC gs/\gs.length=ks.length/\∀(i g':Nat) (e':Ex),gs[i]? = some g'->ks[i]? = some e'->CEx w n T cn g' e':=by
  cases hC
  exact⟨_,_,_,_,_,by assumption,by assumption,by assumption,by assumption,by assumption⟩
 have HG:=hd hg;have HP:=hd ae;have HK:=hd hk;have aa:=hd af;have HS:=hd hs;have am:w.cell? ⟨g,0,none⟩=some (.pointer (some ⟨pb,po,none⟩)):=HG.o.cell 0;have a7:w.cell? ⟨g,10,none⟩=some (.slice A ks.length cap):=HG.o.cell 10;have an:=HG.o.lt;have qk:w.cell? ⟨pb,po,none⟩=some (.int .i64 h.k):=HP.o 0 _ rfl;have qm:w.cell? ⟨pb,po+5,none⟩=some (.int .i64 h.m):=HP.o 5 _ rfl;have ab:=jB w _ qk;simp only at ab;have aD:gs.length<=1000000:=HK.o.1
 have ao:Hd (h.k=4->(rdX h:Int)=h.m):=hd fun h4=>by
  have:=(HO.o.one h4).2.2.1;unfold rdX;rw[ijn (by omega),ijp h4];omega
 have ap:Hd (h.k=3->rdX h=1):=hd fun h3=>by unfold rdX;rw[ijp h3]
 have aq:Hd (h.k≠3->h.k≠4->rdX h=0):=hd fun h3 h4=>by unfold rdX;rw[ijn h3,ijn h4]
 clear ih hx hC hg ae hk af hs hp a2;unfold ptV;have au:=hd (HO.o.kids);generalize hR:rdE (.mk h ks)=R at *;clear hR;generalize hX:rdX h=X at *;clear hX;generalize ai:ks.length=m at *;have a6:=hd ai;clear ai;go_enter func137,ntmps137
 go_upto_block 0 with fail
 go_cut [3] (fun s wx=>s=.int .i64 (X:Nat)/\wx=w)
 case first=>
  by_cases h3:h.k=3
  ·have hx:=ap.o h3;have e3:(h.k==3)=true:=by simpa using h3
   clear h3;go_wp2_with fail
   go_meet
   exact⟨by rw[hx];rfl,rfl⟩
  ·by_cases h4:h.k=4
   ·have hx:=ao.o h4;have e3:(h.k==3)=false:=by simpa using h3
    have e4:(h.k==4)=true:=by simpa using h4
    have aw:=hd hx;clear h3 h4 hx;go_wp2_with fail
    go_meet
    exact⟨by rw[aw.o],rfl⟩
   ·have hx:=aq.o h3 h4;have e3:(h.k==3)=false:=by simpa using h3
    have e4:(h.k==4)=false:=by simpa using h4
    clear h3 h4;go_wp2_with fail
    go_meet
    exact⟨by rw[hx];rfl,rfl⟩
 case rest=>
  obtain⟨rfl,hw⟩:=hcut;have hw':=hw.symm;subst hw';have ax:=hd (fun j=>@Acy ks j);have aE:X+Fb ks<=262144000000:=by have:=a8.o;omega
  generalize aj:Fb ks=RL at *;have ay:=hd aj;clear aj ak;go_wp2_with fail
  clear am a7 an qk qm ab;have aF:m<=1000000:=by have h1:=aa.o;have h2:=a6.o;omega
  go_loopw [3,29] (fun z i wr=>∃k:Nat,i=.int .i64 k/\z=.int .i64 (X+Fb (ks.take k):Nat)/\k<=m/\Hd (Ext [] w wr)) (fun _ i _=>(m-intOf i).toNat)
  case atStart=>exact⟨0,rfl,by simp[Fb],jQ _,hd (jF _ _)⟩
  case round=>
   obtain⟨k,rfl,rfl,hk,HE⟩:=hrel;rename World=>wq
   by_cases aH:k<m
   ·obtain⟨bb,g',rfl,ag,ah⟩:=(HK.o.keep HE.o).at (i:=k) (by have:=aa.o;have:=a6.o;omega);have qa:wq.cell? ⟨bb,k,none⟩=some (.pointer (some g')):=by have:=ah 0 _ rfl;rw[Nat.mul_one,Nat.add_zero] at this;exact this
    have az:=jB wq _ qa;simp only at az;obtain⟨x,hx⟩:∃x,ks[k]? = some x:=⟨_,jJ (show k<ks.length by have:=a6.o;omega)⟩;have a1:=ilm hx;have ac:=hd (Vi hx);have a2:Fb (ks.take (k+1))<=RL:=ax.o (k+1);rw[ac.o] at a2;have ad:=hd (HI.o _ a1 (au.o _ a1) (al.o k _ hx) cn g' n T wq ((HS.o k g' _ ag hx).step HE.o (by simp) (jD n) fun y hy=>.inl hy));generalize Fb (ks.take k)=P at *;generalize rdE x=Y at *;have aG:=hd a2;unfold ptV at ad;clear ag ah hx a1;go_wp2_with fail
    refine ad.o.mono ?_
    rintro r w2 ⟨rfl,hE⟩;have aA:=hd (HE.o.trans hE);clear hE;go_wp2_with fail
    go_roundw
    case rel=>exact⟨k+1,by go_num,by rw[ac.o];first|rfl|(congr 1;push_cast;omega),by omega,aA⟩
    case measure=>simp[intOf];omega
   ·have aB:k=m:=by omega
    subst aB;have HT:Hd (ks.take k=ks):=hd (List.take_of_length_le (by have:=a6.o;omega));go_wp2_with fail
    go_ret
    exact⟨Ae (by rw[HT.o,a8.o,ay.o]),HE.o⟩
end Go.Proofs.YtfppibmloloakaaGreatDoor
