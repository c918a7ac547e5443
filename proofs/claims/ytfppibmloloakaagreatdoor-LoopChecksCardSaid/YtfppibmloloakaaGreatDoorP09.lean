import Derived.Test.YtfppibmloloakaaGreatDoorP08
namespace Go.Proofs.YtfppibmloloakaaGreatDoor
open Go.RowKit Go.Proofs.Tryz
set_option linter.all false
section
theorem call_any (l:List St):CAllC l:=call_list l fun s _=>st_ind (P:=fun s=>CAllC s.body) (fun h ks ih=>call_list ks ih) s
def Bdd (x:Int):Prop:=-100000<=x/\x<=100000
def EnvR (w:World)(eb:Nat)(vs:List Int):Prop:=vs.length<=8/\(∀v∈vs,Bdd v)/\∃C:Array Value,Blk w eb 3 C/\C.size=8/\(∀(i:Nat) (x:Int),vs[i]? = some x->C[i]? = some (.int .i64 x))
theorem EnvR.keep {w w':World}{eb:Nat}{vs:List Int}(h:EnvR w eb vs){S:List Nat}(hE:Ext S w w')(hS:eb∉S):EnvR w' eb vs:=by
 obtain⟨h1,h2,C,h3,h4⟩:=h;exact⟨h1,h2,C,h3.ext hE hS,h4⟩
theorem EnvR.at {w:World}{eb:Nat}{vs:List Int}(h:EnvR w eb vs){i:Nat}{x:Int}(hx:vs[i]? = some x):w.cell? ⟨eb,i,none⟩=some (.int .i64 x):=by
 obtain⟨h1,h2,C,h3,h4,h5⟩:=h;rw[h3.cell];exact h5 i x hx
theorem EnvR.lt {w:World}{eb:Nat}{vs:List Int}(h:EnvR w eb vs):eb<w.heap.size:=by
 obtain⟨h1,h2,C,h3,h4⟩:=h;exact h3.lt
theorem EnvR.made (w:World):EnvR (w.alloc (.cells (Array.replicate 8 (.int .i64 0)) 3)) w.heap.size []:=⟨by simp,by simp,_,Blk.new w 3 _,by simp,by simp⟩
theorem sum_bound {n:Nat}{f:Nat->Int}{M:Int}(hM:0<=M)(h:∀k,k<n->-M<=f k/\f k<=M) : -(n*M)<=sumTo n f/\sumTo n f<=n*M:=by
 induction n with
 | zero=>simp[sumTo]
 | succ n ih=>
  have h1:=ih fun k hk=>h k (by omega)
  have h2:=h n (by omega);have e:((n+1:Nat):Int)*M=n*M+M:=by push_cast;rw[Int.add_mul,Int.one_mul]
  rw[e];simp only[sumTo];omega
theorem mul_bdd {a b:Int}(ha:Bdd a)(hb:Bdd b) : -10000000000<=a*b/\a*b<=10000000000:=by
 obtain⟨a1,a2⟩:=ha;obtain⟨b1,b2⟩:=hb;have h1:a.natAbs*b.natAbs<=100000*100000:=Nat.mul_le_mul (by omega) (by omega);rw[<-Int.natAbs_mul] at h1;omega
def lnV (base:Int)(c:Nat->Int)(vs:List Int):Int:=base+sumTo vs.length fun k=>c k*(vs[k]?).getD 0
theorem Bdd.get {vs:List Int}(h:∀v∈vs,Bdd v)(k:Nat):Bdd ((vs[k]?).getD 0):=by
 cases hv:vs[k]? with
 | none=>exact⟨by decide,by decide⟩
 | some x=>exact h x (List.mem_of_getElem? hv)
theorem part_bdd {base:Int}{c:Nat->Int}{vs:List Int}(hb:Bdd base)(hc:∀k,Bdd (c k))(hv:∀v∈vs,Bdd v)(n:Nat)(hn:n<=8) : -100000000000<=base+sumTo n (fun k=>c k*(vs[k]?).getD 0)/\base+sumTo n (fun k=>c k*(vs[k]?).getD 0)<=100000000000:=by
 have h1:=sum_bound (n:=n) (f:=fun k=>c k*(vs[k]?).getD 0) (M:=10000000000) (by decide) fun k _=>mul_bdd (hc k) (Bdd.get hv k)
 obtain⟨b1,b2⟩:=hb;omega
set_option maxHeartbeats 2000000 in
set_option maxRecDepth 100000 in
theorem at_any (g o:Nat)(base:Int)(c:Nat->Int)(eb:Nat)(vs:List Int)(w:World)(hc:∀(j:Nat) (v:Value),(lnArr base c).toList[j]? = some v->w.cell? ⟨g,o+j,none⟩=some v)(hv:EnvR w eb vs)(hb:Bdd base)(hcb:∀k,Bdd (c k)) :
  Calls Tryz.prog 149 #[.pointer (some ⟨g,o,none⟩),.slice (some ⟨eb,0,none⟩) vs.length 8] w fun e w'=>e=.returned (.int .i64 (lnV base c vs))/\Ext [] w w':=by
 have HC:=hd hc;have HV:=hd hv;have HB:=hd hb;have HCB:=hd hcb;have h8:=hv.1;clear hc hv hb hcb;have HP:=hd (fun n (hn:n<=8)=>part_bdd HB.o HCB.o HV.o.2.1 n hn);generalize hd':vs.length=d at *;have HD:=hd hd';clear hd';have q0:w.cell? ⟨g,o,none⟩=some (.int .i64 base):=HC.o 0 _ rfl;have q0l:=World.block_lt_of_cell? w _ q0;simp only at q0l;go_enter Tryz.func149,Tryz.ntmps149
 go_wp2_with fail
 go_loopw [5,14] (fun s i wr=>∃k:Nat,i=.int .i64 k/\s=.int .i64 (base+sumTo k fun k=>c k*(vs[k]?).getD 0)/\k<=d/\Hd (Ext [] w wr)) (fun _ i _=>(d-intOf i).toNat)
 case atStart=>exact⟨0,rfl,by simp[sumTo],Nat.zero_le _,hd (Ext.refl _ _)⟩
 case round=>
  obtain⟨k,rfl,rfl,hk,HE⟩:=hrel;rename World=>wq
  by_cases hlt:k<d
  ·have hkd:(k:Int)<(d:Int):=by omega
   have hx:vs[k]? = some ((vs[k]?).getD 0):=by rw[List.getElem?_eq_getElem (by have:=HD.o;omega)];rfl
   have qv:wq.cell? ⟨eb,k,none⟩=some (.int .i64 ((vs[k]?).getD 0)):=(HV.o.keep HE.o (by simp)).at hx;have qc:wq.cell? ⟨g,o+1+k,none⟩=some (.int .i64 (c k)):=HE.o.held (by rw[Nat.add_assoc,Nat.add_comm 1 k];exact HC.o (k+1) _ (by rw[Array.getElem?_toList];exact lnArr_get base c k (by omega))) (by simp);have qel:=World.block_lt_of_cell? wq _ qv;have qgl:=World.block_lt_of_cell? wq _ qc;simp only at qel qgl;have hk8:(k:Int)<8:=by omega
   have HM:=hd (mul_bdd (HCB.o k) (Bdd.get HV.o.2.1 k));have HP1:=hd (HP.o (k+1) (by omega));have HP0:=hd (HP.o k (by omega));generalize hx0:(vs[k]?).getD 0=x at *;have HX:=hd hx0;generalize hc0:c k=ck at *;have HCK:=hd hc0;clear hx hx0 hc0;have m1 : -9223372036854775808<=ck*x:=by have:=HM.o.1;omega
   have m2:ck*x<=9223372036854775807:=by have:=HM.o.2;omega
   have hs:sumTo (k+1) (fun k=>c k*(vs[k]?).getD 0)=sumTo k (fun k=>c k*(vs[k]?).getD 0)+ck*x:=by
    rw[<-HX.o,<-HCK.o];rfl
   have HS:=hd hs;clear hs;generalize hsk:sumTo k (fun k=>c k*(vs[k]?).getD 0)=sk at *;have HSK:=hd hsk;clear hsk;have m3 : -9223372036854775808<=base+sk+ck*x:=by have:=HP0.o.1;have:=HM.o.1;omega
   have m4:base+sk+ck*x<=9223372036854775807:=by have:=HP0.o.2;have:=HM.o.2;omega
   go_wp2_with fail
   go_roundw
   case rel=>exact⟨k+1,by go_num,by rw[HS.o,Int.add_assoc],by omega,HE⟩
   case measure=>simp[intOf];omega
  ·have hkd:k=d:=by omega
   subst hkd;go_wp2_with fail
   go_ret
   exact⟨ret_int (by unfold lnV;rw[HD.o]),HE.o⟩
def fEnv (eb d:Nat)(x:Int)(p:Addr)(y:Value):Prop:=p.block=eb/\p.off=d/\y=.int .i64 x
theorem EnvR.rw {w w':World}{eb d:Nat}{vs:List Int}{x:Int}(h:EnvR w eb vs)(hR:RW (fEnv eb d x) w w')(hx:∀y,vs[d]? = some y->y=x):EnvR w' eb vs:=by
 obtain⟨h1,h2,C,h3,h4,h5⟩:=h;obtain⟨C',hg,hz⟩:=hR.1 eb C _ h3;refine⟨h1,h2,C',hg,hz.trans h4,fun i y hy=>?_⟩
 have e1:=hR.held ((h3.cell i).trans (h5 i y hy)) fun u hu=>by
  obtain⟨-,hu2,hu3⟩:=hu;simp only at hu2;subst hu2;rw[hu3,hx y hy]
 rw[cell_of_row w' eb i C' _ (0,0) hg] at e1;exact e1
theorem Shape.set1 (w:World)(b i:Nat)(v:Value):Shape w (w.setCell ⟨b,i,none⟩ v):=fun k cur t hk=>by
 by_cases hb:k=b
 ·subst hb;exact⟨cur.setIfInBounds i v,by simp[World.setCell,Array.getElem?_modify,hk],by simp⟩
 ·exact⟨cur,by simp[World.setCell,Array.getElem?_modify,hk,Ne.symm hb],rfl⟩
theorem RW.set1 {f:Addr->Value->Prop}{w:World}{b i:Nat}{v:Value}(hf:f ⟨b,i,none⟩ v):RW f w (w.setCell ⟨b,i,none⟩ v):=⟨Shape.set1 w b i v,fun p u hp=>by
 by_cases h:(⟨b,i,none⟩:Addr)=p
 ·subst h;exact .inr ⟨v,World.cell?_setCell_same _ _ _ hp,hf⟩
 ·exact .inl (by rw[World.cell?_setCell_other _ _ _ _ h];exact hp)⟩
theorem EnvR.push {w:World}{eb:Nat}{vs:List Int}{x:Int}(h:EnvR w eb vs)(hl:vs.length<8)(hx:Bdd x)(b c:Nat)(hb:w.cell? ⟨b,0,none⟩=some (.int .i64 x))(ty:TypeId) :
  ∃w',(Builtin.append_ #[22,22] ty #[.slice (some ⟨eb,0,none⟩) vs.length 8,.slice (some ⟨b,0,none⟩) 1 c]).run Tryz.prog w=.ok (.slice (some ⟨eb,0,none⟩) (vs.length+1:Nat) 8) w'/\EnvR w' eb (vs ++ [x])/\Ext [eb] w w'/\RW (fEnv eb vs.length x) w w':=by
 obtain⟨h1,h2,C,h3,h4,h5⟩:=h;obtain⟨i0,hi0,hz0,hz1,hz2⟩:=intInfo
 have hr:=run_append_room_cells (P:=Tryz.prog) (w:=w) (ty:=ty) 22 3 i0 Tryz.underlying22 hi0 eb 0 vs.length 8 ⟨b,0,none⟩ 1 c [.int .i64 x] (by rw[hz1];rfl) (new_one w b _ hb) (fun u hu=>by rw[List.mem_singleton.1 hu];rfl) (by omega)
  (fun j hj=>by
   rw[h3.cell,hz1,Array.getElem?_eq_getElem (by simp at hj;omega)];rfl) (fun j hj=>h3.frozen _)
 rw[hz1,Nat.zero_add,Nat.mul_one] at hr;refine⟨w.setCell ⟨eb,vs.length,none⟩ (.int .i64 x),hr,⟨by simp;omega,fun v hv=>?_,_,h3.set_ vs.length (.int .i64 x),by simp[h4],fun i y hy=>?_⟩,Ext.setAt (.inl (by simp)) (Ext.refl _ _),RW.set1 ⟨rfl,rfl,rfl⟩⟩
 ·rcases List.mem_append.1 hv with hv|hv
  ·exact h2 v hv
  ·rw[List.mem_singleton.1 hv];exact hx
 ·rw[Array.getElem?_setIfInBounds];by_cases hi:vs.length=i
  ·subst hi;rw[List.getElem?_append_right (Nat.le_refl _),Nat.sub_self] at hy;cases hy
   rw[if_pos rfl,if_pos (by omega)]
  ·rw[if_neg hi];have hlen:=(List.getElem?_eq_some_iff.1 hy).1;simp at hlen;rw[List.getElem?_append_left (by omega)] at hy;exact h5 i y hy
def sEnv (eb d:Nat)(vs:List Int):Spec:=⟨Unit,(),fun _=>.slice (some ⟨eb,0,none⟩) d 8,fun _ w=>EnvR w eb vs⟩
theorem sEnv.stays {eb d d':Nat}{vs:List Int}{x:Int}(hx:∀y,vs[d']? = some y->y=x):∀y w w',RW (fEnv eb d' x) w w'->(sEnv eb d vs).V y w->(sEnv eb d vs).V y w':=fun _ w w' h k=>EnvR.rw k h hx
section
variable {ops:Array Oper} {S:Nat->Option Spec} {Q:Act->World->Prop} {k:Nat} {o:Oper} {rest:List Oper} {a:Act} {F:Nat->World->Prop} {w0:World}
theorem rel_push (eb b c d:Nat)(vs:List Int)(x:Int)(s y:Operand)
  (hS:S k=some (sEnv eb (d+1) (vs ++ [x]))) (hgd:o.guard=none) (ho:o.op=.call {callee:=.builtin .append,args:=#[s,y],argTypes:=#[22,22] })
  (hs:a.eval s=.slice (some ⟨eb,0,none⟩) d 8) (hx:a.eval y=.slice (some ⟨b,0,none⟩) 1 c) (hd':vs.length=d) (hl:d<8) (hb:Bdd x)
  (hr:∀w n',JW w0 [eb] (fEnv eb d x) (n'+1) w->(∀e∈o.after,Region.binds .any e=true->F e.on w)->EnvR w eb vs/\w.cell? ⟨b,0,none⟩=some (.int .i64 x))
  (h:relAt Tryz.prog ops (JW w0 [eb] (fEnv eb d x)) (RW (fEnv eb d x)) S Q (k+1) rest (a.put o.dst (.slice (some ⟨eb,0,none⟩) (d+1:Nat) 8)) (upd F k ((sEnv eb (d+1) (vs ++ [x])).V ()))) :
  relAt Tryz.prog ops (JW w0 [eb] (fEnv eb d x)) (RW (fEnv eb d x)) S Q k (o :: rest) a F:=by
 refine relAt_value _ hS (by simp[Region.wanted,hgd]) (fun w m hJ hF=>?_) (fun _=>h)
 obtain⟨h1,h2⟩:=hr w m hJ hF;subst hd';obtain⟨w',hrun,hE,hX,hW⟩:=h1.push hl hb b c h2 o.type;refine⟨(),w',?_,hE,⟨hJ.1.trans hX,hJ.2.trans hW⟩,hW⟩
 unfold execOp;simp only[ho,resolve,invoke,builtin,Sem.run_bind,Sem.run_pure,Result.andThen_ok,List.map_toArray,List.map_cons,List.map_nil,hs,hx,hrun];rfl
end
theorem alloc_size (w:World)(o:Obj):(w.alloc o).heap.size=w.heap.size+1:=Array.size_push ..
structure CodeAt (w:World)(n cb:Nat)(bA:Option Addr)(nb bc:Nat)(body:List St)(gs:List Nat)(gA:Option Addr)(gc:Nat)(L:List Nat)(AL:List Value)(sA:Option Addr)(sc:Nat)(v1 av:Value):Prop where
 blk:Blk w cb 174 #[.slice bA nb bc,v1,.slice gA body.length gc,.slice sA L.length sc,av]
 cbn:cb<n
 row:Held w n [] gA 1 ptC gs
 rowS:Held w n [] sA 1 ptC L
 rowA:Own1 w 0 124 av AL/\∀b,av.ownBlock=some b->b<n
 len:gs.length=body.length
 lenS:L.length=storesL body/\AL.length=storesL body
 cst:∀(i g:Nat) (s:St),gs[i]? = some g->body[i]? = some s->CSt w n [] L AL [] [(i:Int)] [] (storesL (body.take i)) g s
theorem CodeAt.step {w w':World}{n n' cb:Nat}{bA:Option Addr}{nb bc:Nat}{body:List St}{gs:List Nat}{gA:Option Addr}{gc:Nat}{L:List Nat}{AL:List Value}{sA:Option Addr}{sc:Nat}{v1 av:Value}(h:CodeAt w n cb bA nb bc body gs gA gc L AL sA sc v1 av){S:List Nat}(hE:Ext S w w')(hS:∀x∈S,n<=x)(hn:n<=n'):CodeAt w' n' cb bA nb bc body gs gA gc L AL sA sc v1 av:=
 ⟨h.blk.ext hE fun hm=>by have:=hS _ hm;have:=h.cbn;omega,by have:=h.cbn;omega,h.row.step hE (fun x hx=>.inr (hS x hx)) hn (by simp),h.rowS.step hE (fun x hx=>.inr (hS x hx)) hn (by simp),
  ⟨own1_ext h.rowA.1 hE fun b hb hm=>by have:=hS _ hm;have:=h.rowA.2 b hb;omega,fun b hb=>by have:=h.rowA.2 b hb;omega⟩,h.len,h.lenS,fun i g s hg hs=>(h.cst i g s hg hs).step hE (fun x hx=>.inr (hS x hx)) hn (by simp) (fun i g h=>h) fun i g h=>h⟩
set_option maxHeartbeats 4000000 in
set_option maxRecDepth 100000 in
theorem compile_any (bA lA:Option Addr)(nb bc lc:Nat)(body:List St)(w:World)(hR:SeqIn w lA 21 stC body)(hS:∀s∈body,StIn w s)(hF:∀s∈body,Fd nb [] s)(hc:cntL body<=100000)(hs:storesL body<=100000) :
  Calls Tryz.prog 98 #[.agg #[.slice bA nb bc,.slice lA body.length lc]] w fun e w'=>∃(cb:Nat) (gs:List Nat) (gA:Option Addr) (gc:Nat) (L:List Nat) (AL:List Value) (sA:Option Addr) (sc:Nat) (av:Value),
   e=.returned (.pointer (some ⟨cb,0,none⟩))/\w.heap.size<=cb/\Ext [] w w'/\CodeAt w' w'.heap.size cb bA nb bc body gs gA gc L AL sA sc (.slice lA body.length lc) av:=by
 have HR:=hd hR;have HS:=hd hS;have HF:=hd hF;clear hR hS hF;generalize hn:body.length=n at *;have HN:=hd hn;clear hn;go_enter Tryz.func98,Tryz.ntmps98
 go_wp2_with fail
 generalize hW:(w.alloc _).alloc _=w2;have HE2:Hd (Ext [] w w2):=hd (hW ▸ ((Ext.refl [] w).alloc _).alloc _)
 have HB2:Hd (Blk w2 (w.heap.size+1) 174 #[.slice bA nb bc,.slice lA n lc,.slice none 0 0,.slice none 0 0,.slice none 0 0]):=hd (by
  have:=Blk.new (w.alloc (.cells #[.slice bA nb bc,.slice lA n lc] 29)) 174 #[.slice bA nb bc,.slice lA n lc,.slice none 0 0,.slice none 0 0,.slice none 0 0];rw[hW,alloc_size] at this;exact this)
 clear hW
 have HC:=hd (call_any body 0 lc lA none 0 0 [] none 0 0 [] [] nb 0 (w.heap.size+1) w.heap.size (.slice bA nb bc) (.slice lA n lc) (.slice none 0 0) (.slice none 0 0) (.slice none 0 0) [] [] [] w w2 HR.o HS.o HF.o HE2.o (Nat.le_refl _) (by omega) (SeqIn.nil _ _ _ _)
  ⟨rfl,fun i g nm hg=>by simp at hg⟩ rfl (fun _=>⟨rfl,rfl⟩) (by simp) (SeqIn.nil _ _ _ _) rfl (fun _=>⟨rfl,rfl⟩) (by omega) ⟨HB2.o,own1_nil _ _ _,own1_nil _ _ _⟩ rfl rfl (by omega) (by simp) (fun b o h=>by cases h) (by simp) (fun b o h=>by cases h))
 rw[HN.o] at HC;refine HC.o.mono ?_
 rintro e w3 ⟨v,sv,av,L,AL,gs,rfl,hE,hcd,hl,hal,-,-,hts,hrow,hap,hgl,hcst⟩;have HE3:=hd hE;have HCD:=hd hcd;have HL:=hd (And.intro hl hal);have HTS:=hd hts;have HROW:=hd hrow;have HAP:=hd hap;have HGL:=hd hgl;have HCS:=hd hcst;clear hE hcd hl hal hts hrow hap hgl hcst HC;have hlen:gs.length<=1000000:=by rw[HGL.o];exact HR.o.1
 obtain⟨gA,gc,rfl,hg1,hg2⟩:=own_pt HROW.o hlen;obtain⟨sA,sc,rfl,hs1,hs2⟩:=own_pt HCD.o.st (by have:=HL.o.1;omega);have qc:=HCD.o.blk.cell;have qf:=HCD.o.blk.frozen;have qcl:=HCD.o.blk.lt;have HG1:=hd hg1;have HG2:=hd hg2;have HS1:=hd hs1;have HS2:=hd hs2;clear hg1 hg2 hs1 hs2;have HB4:=hd (HCD.o.blk.set_' 2 (.slice gA gs.length gc) #[.slice bA nb bc,.slice lA n lc,.slice gA gs.length gc,.slice sA L.length sc,av] rfl);have HE4:=hd (Ext.setAt (b:=w.heap.size+1) (i:=2) (u:=Value.slice gA gs.length gc) (.inl (by simp)) (Ext.refl [w.heap.size+1] w3));go_wp2_with fail
 go_ret
 generalize World.setCell _ _ _=w4 at *
 have hEw:Ext [] w w4:=keep0 (keep0 HE2.o HE3.o fun x hx=>by
  rcases List.mem_cons.1 hx with h1|h1
  ·omega
  ·exact absurd h1 (by simp[Value.ownBlock])) HE4.o fun x hx=>by rw[List.mem_singleton.1 hx];omega
 have hz4:=HE4.o.size
 have hsne:∀b,(Value.slice sA L.length sc).ownBlock=some b->b≠w.heap.size+1:=fun b hb e=>by
  obtain⟨C,hC⟩:=own_blk HCD.o.st hb;rw[e] at hC;exact absurd (Blk.type hC HCD.o.blk) (by decide)
 have hane:∀b,av.ownBlock=some b->b≠w.heap.size+1:=fun b hb e=>by
  obtain⟨C,hC⟩:=own_blk HCD.o.ar hb;rw[e] at hC;exact absurd (Blk.type hC HCD.o.blk) (by decide)
 refine⟨w.heap.size+1,gs,gA,gc,L,AL,sA,sc,av,rfl,by omega,hEw,⟨?_,by omega,⟨HG1.o.ext HE4.o fun x hx b o hA hxb=>?_,fun b o hA=>⟨?_,by simp⟩⟩,⟨HS1.o.ext HE4.o fun x hx b o hA hxb=>?_,fun b o hA=>⟨?_,by simp⟩⟩,
  ⟨own1_ext (own1_base HCD.o.ar (Nat.zero_le _)) HE4.o fun b hb hm=>hane b hb (List.mem_singleton.1 hm),fun b hb=>?_⟩,by rw[HGL.o],⟨by have:=HL.o.1;omega,by have:=HL.o.2;omega⟩,fun i g s hg hs=>?_⟩⟩
 ·have:=HB4.o;rw[HGL.o] at this;rw[<-HN.o] at this⊢;exact this
 ·have h1:(Value.slice gA gs.length gc).ownBlock=some b:=by rw[HG2.o,hA];rfl
  exact HAP.o b h1 (by rw[<-hxb,List.mem_singleton.1 hx];exact List.mem_cons_self ..)
 ·have h1:(Value.slice gA gs.length gc).ownBlock=some b:=by rw[HG2.o,hA];rfl
  have:=(own1_blk HROW.o h1).2;omega
 ·have h1:(Value.slice sA L.length sc).ownBlock=some b:=by rw[HS2.o,hA];rfl
  exact hsne b h1 (by rw[<-hxb,List.mem_singleton.1 hx])
 ·have h1:(Value.slice sA L.length sc).ownBlock=some b:=by rw[HS2.o,hA];rfl
  have:=(own1_blk HCD.o.st h1).2;omega
 ·have:=(own1_blk HCD.o.ar hb).2;omega
 ·have h1:=HCS.o i g s hg hs;rw[Nat.zero_add] at h1;exact h1.step HE4.o (fun x hx=>.inl (by rw[List.mem_singleton.1 hx];exact List.mem_cons_self ..)) HE4.o.size (by simp) (fun i g h=>h) fun i g h=>h
end
def zpV (y:Nat×Ex):Value:=ptV y.1
def zpC (y:Nat×Ex):List Value:=[ptV y.1]
set_option maxRecDepth 100000 in
set_option maxHeartbeats 4000000 in
theorem zp_index (A:Option Addr)(n cap:Nat)(l:List (Nat×Ex))(f:FuncId)(caps:Array Value)(p:Nat×Ex->Bool)(w:World)(h:SeqIn w A 1 zpC l)(hl:l.length=n)(hf:ClosP Tryz.prog f caps l zpV p w) :
  Calls Tryz.prog 224 #[.slice A n cap,.func (.func f) #[] caps] w (IdxP (l.any p) w):=by
 have hn9:n<=1000000:=by have:=h.1;omega
 have HP:=hd h;have HL:=hd hl;have HF:=hd hf;clear h hl hf;go_enter Tryz.func224,Tryz.ntmps224
 go_wp2_with fail
 go_loopw [8] (fun i wr=>∃k:Nat,i=.int .i64 k/\k<=n/\Hd (Ext [] w wr)/\Hd (∀(j:Nat) (x:Nat×Ex),j<k->l[j]? = some x->p x=false)) (fun i _=>(n-intOf i).toNat)
 case atStart=>exact⟨0,rfl,Nat.zero_le _,hd (Ext.refl _ _),hd fun j x hj=>absurd hj (by omega)⟩
 case round=>
  obtain⟨k,rfl,hk,HE,HN⟩:=hrel;rename World=>wq
  by_cases hlt:k<n
  ·obtain⟨b,⟨x,xe⟩,rfl,hx,hc⟩:=(HP.o.keep HE.o).at (i:=k) (by have:=HL.o;omega);skip
   have g0:=hc 0 _ rfl;simp only[ptV] at g0;rw[Nat.add_zero,Nat.mul_one] at g0;have HQ:=hd (HF.o.2 k _ hx wq HE.o);have HX:=hd hx;clear hx hc;go_wp2_with fail
   rw[HF.o.1,Oper.upon_enter];refine HQ.o.mono ?_
   rintro e w' ⟨rfl,hE⟩;have HE2:=hd (HE.o.trans hE);clear hE;generalize hp:p _=t;cases t
   ·have HQ:=hd hp;clear hp;go_wp2_with fail
    go_roundw
    case rel=>
     refine⟨k+1,by go_num,by omega,HE2,hd fun j x hj hx=>?_⟩
     rcases Nat.lt_or_ge j k with h1|h1
     ·exact HN.o j x h1 hx
     ·have:j=k:=by omega
      subst this;have:=HX.o.symm.trans hx;cases this
      exact HQ.o
    case measure=>simp[intOf];omega
   ·have HQ:=hd hp;clear hp;go_wp2_with fail
    go_ret
    exact⟨_,rfl,by rw[any_at HX.o HQ.o];simp,HE2.o⟩
  ·go_wp2_with fail
   go_ret
   exact⟨_,rfl,by rw[any_upto HL.o (fun j x hj hx=>HN.o j x (by omega) hx)];rfl,HE.o⟩
theorem zp_has (A:Option Addr)(n cap:Nat)(l:List (Nat×Ex))(f:FuncId)(caps:Array Value)(p:Nat×Ex->Bool)(w:World)(h:SeqIn w A 1 zpC l)(hl:l.length=n)(hf:ClosP Tryz.prog f caps l zpV p w) :
  Calls Tryz.prog 194 #[.slice A n cap,.func (.func f) #[] caps] w (HasP (l.any p) w):=by
 have HI:=hd (zp_index A n cap l f caps p w h hl hf);clear h hl hf;go_enter Tryz.func194,Tryz.ntmps194
 go_wp2_with fail
 refine HI.o.mono ?_
 rintro e w' ⟨r,rfl,hr,hE⟩;have HR:=hd hr;have HE:=hd hE;clear hr hE;go_wp2_with fail
 go_ret
 exact⟨ret_bool (by rw[<-HR.o]),HE.o⟩
theorem coef_bdd {names:List ByteArray}{ts:List (ByteArray×Int)}(h:∀t∈ts,Bdd t.2):∀k,Bdd (coefS names ts k):=by
 have key:∀(ts:List (ByteArray×Int)) (c:Nat->Int),(∀t∈ts,Bdd t.2)->(∀k,Bdd (c k))->∀k,Bdd (ts.foldl (fun c t=>updC c (plc names t.1) t.2) c k):=by
  intro ts
  induction ts with
  | nil=>intro c _ hc;exact hc
  | cons t ts ih=>
   intro c ht hc;rw[List.foldl_cons];refine ih _ (fun u hu=>ht u (List.mem_cons_of_mem _ hu)) fun k=>?_
   simp only[updC];split
   ·exact ht t (List.mem_cons_self ..)
   ·exact hc k
 exact key ts _ h fun k=>⟨by decide,by decide⟩
structure AffOk (names:List ByteArray)(a:Af):Prop where
 base:Bdd a.base
 coef:∀k,Bdd (coefS names a.ts k)
 unord:unord a.ts=false
 stray:a.ts.any (strayT names)=false
theorem bdd_iff {x:Int}:bdd x=true ↔ Bdd x:=by unfold bdd Bdd;exact btw_iff
theorem AffOk.of {names:List ByteArray}{a:Af}(h:affE names a=0):AffOk names a:=by
 obtain⟨h1,h2,h3,h4,h5⟩:=affE_spec h;refine⟨bdd_iff.1 h2,coef_bdd fun t ht=>?_,h4,h5⟩
 have:=List.any_eq_false.1 h3 t ht;unfold badT at this;simp at this;exact bdd_iff.1 this.1
theorem AffOk.val {names:List ByteArray}{a:Af}(h:AffOk names a){vs:List Int}(hl:vs.length=names.length):lnV a.base (coefS names a.ts) vs=evA (names.zip vs) a:=(evA_line h.unord h.stray hl).symm
theorem lnV_bdd {names:List ByteArray}{a:Af}(h:AffOk names a){vs:List Int}(hv:∀v∈vs,Bdd v)(h8:vs.length<=8) : -100000000000<=lnV a.base (coefS names a.ts) vs/\lnV a.base (coefS names a.ts) vs<=100000000000:=part_bdd h.base h.coef hv _ h8
theorem aff_any (g o:Nat)(names:List ByteArray)(a:Af)(eb:Nat)(vs:List Int)(w:World)(hc:∀(j:Nat) (v:Value),(lnArr a.base (coefS names a.ts)).toList[j]? = some v->w.cell? ⟨g,o+j,none⟩=some v)(hv:EnvR w eb vs)(ha:AffOk names a)(hl:vs.length=names.length) :
  Calls Tryz.prog 149 #[.pointer (some ⟨g,o,none⟩),.slice (some ⟨eb,0,none⟩) vs.length 8] w fun e w'=>e=.returned (.int .i64 (evA (names.zip vs) a))/\Ext [] w w':=by
 have h:=at_any g o a.base (coefS names a.ts) eb vs w hc hv ha.base ha.coef;rw[ha.val hl] at h;exact h
set_option maxHeartbeats 4000000 in
set_option maxRecDepth 100000 in
theorem holds_any (g:Nat)(CA:Option Addr)(n cc:Nat)(h:SH)(names:List ByteArray)(eb:Nat)(vs:List Int)(w:World)(hg:w.cell? ⟨g,3,none⟩=some (.slice CA n cc))(hn:h.conds.length=n)(hc:SeqIn w CA 9 (lnL names) h.conds)(ha:∀a∈h.conds,affE names a=0)(hv:EnvR w eb vs)(hl:vs.length=names.length) :
  Calls Tryz.prog 144 #[.pointer (some ⟨g,0,none⟩),.slice (some ⟨eb,0,none⟩) vs.length 8] w (HasP (holdsS (names.zip vs) h) w):=by
 have hn9:n<=1000000:=by have:=hc.1;omega
 have hgl:=World.block_lt_of_cell? w _ hg;simp only at hgl;have HG:=hd hg;have HN:=hd hn;have HC:=hd hc;have HA:=hd ha;have HV:=hd hv;have HL:=hd hl;clear hg hn hc ha hv hl;generalize hd':vs.length=d at *;have HD:=hd hd';clear hd';have qg:=HG.o;go_enter Tryz.func144,Tryz.ntmps144
 go_wp2_with fail
 clear qg;go_loopw [11] (fun i wr=>∃k:Nat,i=.int .i64 k/\k<=n/\Hd (Ext [] w wr)/\Hd (∀(j:Nat) (x:Af),j<k->h.conds[j]? = some x->0<=evA (names.zip vs) x)) (fun i _=>(n-intOf i).toNat)
 case atStart=>exact⟨0,rfl,Nat.zero_le _,hd (Ext.refl _ _),hd fun j x hj=>absurd hj (by omega)⟩
 case round=>
  obtain⟨k,rfl,hk,HE,HK⟩:=hrel;rename World=>wq
  by_cases hlt:k<n
  ·have hkn:(k:Int)<(n:Int):=by omega
   obtain⟨b,x,rfl,hx,hcc⟩:=(HC.o.keep HE.o).at (i:=k) (by have:=HN.o;omega);have qg:wq.cell? ⟨g,3,none⟩=some (.slice (some ⟨b,0,none⟩) n cc):=HE.o.held HG.o (by simp);have HX:=hd hx;have q9:=hcc 0 _ rfl;have qbl:=World.block_lt_of_cell? wq _ q9;have qgl:g<wq.heap.size:=Nat.lt_of_lt_of_le hgl HE.o.size;simp only at qbl;clear q9;have HQ:=hd (aff_any b (k*9) names x eb vs wq hcc (HV.o.keep HE.o (by simp)) (AffOk.of (HA.o x (List.mem_of_getElem? hx))) (by have:=HL.o;have:=HD.o;omega));clear hx hcc;rw[HD.o] at HQ;generalize hev:evA (names.zip vs) x=ev at *;have HEV:=hd hev;clear hev;go_wp2_with fail
   refine HQ.o.mono ?_
   rintro e w' ⟨rfl,hE⟩;have HE2:=hd (HE.o.trans hE);clear hE HQ;by_cases h0:ev<0
   ·have h1:decide (ev<0)=true:=by simpa using h0
    have H0:=hd h0;clear h0;go_wp2_with fail
    go_ret
    refine⟨ret_bool ?_,HE2.o⟩
    unfold holdsS;rw[List.all_eq_false.2 ⟨x,List.mem_of_getElem? HX.o,by rw[HEV.o];have:=H0.o;simp;omega⟩]
   ·have h1:decide (ev<0)=false:=by simpa using h0
    have H0:=hd h0;clear h0;go_wp2_with fail
    go_roundw
    case rel=>
     refine⟨k+1,by go_num,by omega,HE2,hd fun j y hj hy=>?_⟩
     rcases Nat.lt_or_ge j k with h1|h1
     ·exact HK.o j y h1 hy
     ·have:j=k:=by omega
      subst this;have:=HX.o.symm.trans hy;cases this
      rw[HEV.o];have:=H0.o;omega
    case measure=>simp[intOf];omega
  ·have hkn:k=n:=by omega
   subst hkn;go_wp2_with fail
   go_ret
   refine⟨ret_bool ?_,HE.o⟩
   unfold holdsS;symm
   rw[List.all_eq_true];intro x hx;obtain⟨j,hj,rfl⟩:=List.getElem_of_mem hx;have:=HK.o j _ (by have:=HN.o;omega) (List.getElem?_eq_getElem hj);simpa using this
def CodB (w:World)(cb:Nat)(bs:List Bf):Prop:=∃(bA:Option Addr) (bc:Nat),w.cell? ⟨cb,0,none⟩=some (.slice bA bs.length bc)/\SeqIn w bA 4 bfC bs/\∀b∈bs,1<=b.size/\b.size<=262144
theorem CodB.keep {w w':World}{cb:Nat}{bs:List Bf}(h:CodB w cb bs)(hE:Ext [] w w'):CodB w' cb bs:=by
 obtain⟨bA,bc,h1,h2,h3⟩:=h;exact⟨bA,bc,hE.held h1 (by simp),h2.keep hE,h3⟩
theorem sizeB_at {bs:List Bf}{k:Int}{b:Bf}(h0:0<=k)(h:bs[k.toNat]? = some b):sizeB bs k=b.size:=by unfold sizeB;rw[h];rfl
structure ExOk (names:List ByteArray)(nb:Nat)(h:EH)(ks:List Ex):Prop where
 aff:AffOk names h.at_
 kind:h.k=1\/h.k=2\/h.k=3\/h.k=4\/h.k=5
 none:h.k=1\/h.k=2\/h.k=3->ks=[]
 one:h.k=4->ks.length=1/\(1<=h.n/\h.n<=100000)/\(1<=h.m/\h.m<=262144)/\isWd h.lo=true
 buf:h.k=3\/h.k=4->0<=h.buf/\h.buf<nb
 kids:∀e∈ks,exprE names nb e=0
 num:h.k=1->isWd h.n=true
theorem ExOk.of {names:List ByteArray}{nb:Nat}{h:EH}{ks:List Ex}(hx:exprE names nb (.mk h ks)=0):ExOk names nb h ks:=by
 obtain⟨h1,h2⟩:=exprE_spec hx;obtain⟨h3,h4,h5,h6,h7⟩:=headX_spec h1;have hk:=kidsN_kind h3
 have h8:(ks.length:Int)=kidsN h.k h.op:=by
  unfold formX at h4;simp only[Bool.and_eq_true,decide_eq_true_eq] at h4;exact h4.2
 refine⟨AffOk.of h7,hk,fun hh=>?_,fun hh=>?_,fun hh=>?_,h2,fun hh=>?_⟩
 ·have:kidsN h.k h.op=0:=by rcases hh with hh|hh|hh<;>(rw[hh];simp[kidsN])
  rw[this] at h8;exact List.length_eq_zero_iff.1 (by omega)
 ·have e:kidsN h.k h.op=1:=by rw[hh];simp[kidsN]
  rw[e] at h8;unfold rangeX at h5;rw[if_neg (by omega),if_pos hh] at h5;simp only[Bool.and_eq_true,btw_iff] at h5;exact⟨by omega,h5.1.2,h5.2,h5.1.1⟩
 ·unfold bufX at h6;simp only[decide_eq_false_iff_not,not_and,Classical.not_not] at h6;have:=h6 hh;omega
 ·unfold rangeX at h5;rw[if_pos hh] at h5;exact h5
theorem inEL_any {bs:List Bf}{env:Env}:∀(gs:List Nat) (ks:List Ex),gs.length=ks.length->((gs.zip ks).any fun y=>!inE bs env y.2) = !inEL bs env ks
 | [],[],_=>rfl
 | g :: gs,e :: ks,h=>by
  simp only[List.zip_cons_cons,List.any_cons,inEL];rw[inEL_any gs ks (by simpa using h)];cases inE bs env e<;>simp
theorem zip_in {w:World}{A:Option Addr}{gs:List Nat}{ks:List Ex}(h:SeqIn w A 1 ptC gs)(hl:gs.length=ks.length):SeqIn w A 1 zpC (gs.zip ks):=by
 obtain⟨h1,h2⟩:=h;refine⟨by rw[List.length_zip];omega,?_⟩
 rcases h2 with h2|⟨b,rfl,hc⟩
 ·left;rw[h2];rfl
 ·refine .inr ⟨b,rfl,fun i x hx j v hv=>?_⟩
  obtain⟨h3,h4⟩:=List.getElem?_zip_eq_some.1 hx;exact hc i x.1 h3 j v hv
theorem enters_inOne:∀args w,(callFunc 195 args).run Tryz.prog w=.ok (.enter 195 args) w:=by
 obtain⟨c,hc⟩:∃c,Tryz.f195.body=some c:=⟨_,rfl⟩;exact fun args w=>enters_of Tryz.func195 (by kernel_rfl) hc args w
theorem inOne_any (g b3 b5 cb eb d:Nat)(w:World)(t:Bool)(h3:w.cell? ⟨b3,0,none⟩=some (.pointer (some ⟨cb,0,none⟩)))(h5:w.cell? ⟨b5,0,none⟩=some (.slice (some ⟨eb,0,none⟩) d 8))
  (hc:Calls Tryz.prog 150 #[.pointer (some ⟨cb,0,none⟩),ptV g,.slice (some ⟨eb,0,none⟩) d 8] w (HasP t w)) :
  Calls Tryz.prog 195 (#[ptV g] ++ #[.pointer (some ⟨b3,0,none⟩),.pointer (some ⟨b5,0,none⟩)]) w (HasP (!t) w):=by
 have l3:=World.block_lt_of_cell? w _ h3;have l5:=World.block_lt_of_cell? w _ h5;simp only at l3 l5;have HC:=hd hc;clear hc;go_enter Tryz.func195,Tryz.ntmps195
 go_wp2_with fail
 refine HC.o.mono ?_
 rintro e w' ⟨rfl,hE⟩;go_wp2_with fail
 go_ret
 exact⟨rfl,hE⟩
set_option maxHeartbeats 8000000 in
set_option maxRecDepth 100000 in
theorem exIn_any (bs:List Bf)(cb eb:Nat)(names:List ByteArray)(vs:List Int)(hl:vs.length=names.length):∀e:Ex,exprE names bs.length e=0->∀(g n:Nat) (T:List Nat) (w:World),CEx w n T names g e->CodB w cb bs->EnvR w eb vs->
  Calls Tryz.prog 150 #[.pointer (some ⟨cb,0,none⟩),ptV g,.slice (some ⟨eb,0,none⟩) vs.length 8] w (HasP (inE bs (names.zip vs) e) w):=by
 refine ex_ind fun h ks ih=>?_
 intro hx g n T w hC hB hV;have HI:=hd ih;have HO:=hd (ExOk.of hx);have HB:=hd hB;have HV:=hd hV;have HL:=hd hl;have HC:=hd hC;clear ih hx hB hV hC
 obtain⟨pb,po,A,cap,gs,hg,hp,hk,hgl,hs⟩:∃(pb po:Nat) (A:Option Addr) (cap:Nat) (gs:List Nat),Blk w g 271 (ceArr pb po h.at_.base (coefS names h.at_.ts) (.slice A ks.length cap))/\(∀(j:Nat) (v:Value),(exH h ks.length)[j]? = some v->w.cell? ⟨pb,po+j,none⟩=some v)/\SeqIn w A 1 ptC gs/\gs.length=ks.length/\∀(i g':Nat) (e':Ex),gs[i]? = some g'->ks[i]? = some e'->CEx w n T names g' e':=by
  have:=HC.o;cases this
  exact⟨_,_,_,_,_,by assumption,by assumption,by assumption,by assumption,by assumption⟩
 have HG:=hd hg;have HP:=hd hp;have HK:=hd hk;have HGL:=hd hgl;have HS:=hd hs;clear hg hp hk hgl hs;generalize hd':vs.length=d at *;have HD:=hd hd';clear hd' hl
 have HLn:Hd (∀(j:Nat) (v:Value),(lnArr h.at_.base (coefS names h.at_.ts)).toList[j]? = some v->w.cell? ⟨g,1+j,none⟩=some v):=hd fun j v hv=>by
  rw[HG.o.cell];have h9:=(List.getElem?_eq_some_iff.1 hv).1;have:j=0\/j=1\/j=2\/j=3\/j=4\/j=5\/j=6\/j=7\/j=8:=by simp[lnArr] at h9;omega
  rcases this with rfl|rfl|rfl|rfl|rfl|rfl|rfl|rfl|rfl<;>exact hv
 have hgl:=HG.o.lt;unfold ptV;go_enter Tryz.func150,Tryz.ntmps150
 go_wp2_with fail
 have HE2:=hd (((Ext.refl [] w).alloc (.cells #[.pointer (some ⟨cb,0,none⟩)] 91)).alloc (.cells #[.slice (some ⟨eb,0,none⟩) d 8] 22));have HB3:=hd ((Blk.new w 91 #[.pointer (some ⟨cb,0,none⟩)]).ext ((Ext.refl [] _).alloc (.cells #[.slice (some ⟨eb,0,none⟩) d 8] 22)) (by simp));have HB5:=hd (Blk.new (w.alloc (.cells #[.pointer (some ⟨cb,0,none⟩)] 91)) 22 #[.slice (some ⟨eb,0,none⟩) d 8]);rw[alloc_size] at HB5;generalize World.alloc (World.alloc w _) _=w2 at *;generalize w.heap.size=b3 at *;have HAFF:=hd (fun W (hW:Ext [] w W)=>aff_any g 1 names h.at_ eb vs W (fun j v hv=>hW.held (HLn.o j v hv) (by simp)) (HV.o.keep hW (by simp)) HO.o.aff (by rw[HD.o];exact HL.o))
 have HBD:Hd (-100000000000<=evA (names.zip vs) h.at_/\evA (names.zip vs) h.at_<=100000000000):=hd (by
  rw[<-HO.o.aff.val (by rw[HD.o];exact HL.o)];exact lnV_bdd HO.o.aff HV.o.2.1 HV.o.1)
 rw[HD.o] at HAFF;refine wp_region_rel 4 (JE _) (Ext []) (kinds []) (by kernel_rfl) (by kernel_rfl) JE.less ?_ JE.start ?_
 ·repeat(first|exact Stays.nil|refine Stays.cons sFix.stays ?_)
 simp only[List.take_succ_cons,List.take_zero,List.drop_succ_cons,List.drop_zero]
 repeat
  refine relAt_det rfl rfl ?_
  apply Exists.intro
  refine⟨fun wr nr hJ=>?_,?_⟩
  ·have q5:=(HB5.o.ext hJ (by simp)).cell 0;have q5l:=(HB5.o.ext hJ (by simp)).lt;clear hJ;(go_simp;try go_bits)
   first|rfl|exact⟨rfl,rfl⟩
  simp only[Act.put,List.setIfInBounds_toArray,List.set_cons_succ,List.set_cons_zero]
 refine relAt_nil (fun w3 hJ hF=>?_)
 have HE3:=hd (HE2.o.trans hJ);have HB35:=hd (HB3.o.ext hJ (by simp));have HB55:=hd (HB5.o.ext hJ (by simp));clear hF hJ HE2 HB3 HB5;go_wp2_with fail
 refine(HAFF.o w3 HE3.o).mono ?_
 rintro e w4 ⟨rfl,hE⟩;have HE4:=hd (HE3.o.trans hE);have HB3:=hd (HB35.o.ext hE (by simp));have HB5:=hd (HB55.o.ext hE (by simp));clear hE HE3 HB35 HB55;have HIN:Hd (inE bs (names.zip vs) (.mk h ks)=(inX bs (names.zip vs) h&&inEL bs (names.zip vs) ks)):=hd (by rw[inE]);rw[HIN.o];generalize hA:evA (names.zip vs) h.at_=av at *;have HAV:=hd hA;clear hA;have qg0:w4.cell? ⟨g,0,none⟩=some (.pointer (some ⟨pb,po,none⟩)):=(HG.o.ext HE4.o (by simp)).cell 0;have qg10:w4.cell? ⟨g,10,none⟩=some (.slice A ks.length cap):=(HG.o.ext HE4.o (by simp)).cell 10;have qgl:=(HG.o.ext HE4.o (by simp)).lt;have qk:w4.cell? ⟨pb,po,none⟩=some (.int .i64 h.k):=HE4.o.held (HP.o 0 _ rfl) (by simp);have qpl:=World.block_lt_of_cell? w4 _ qk;simp only at qpl
 have HKIDS:Hd (∀W,Ext [] w4 W->Calls Tryz.prog 194 #[.slice A ks.length cap,.func (.func 195) #[] #[.pointer (some ⟨b3,0,none⟩),.pointer (some ⟨b3+1,0,none⟩)]] W (HasP (!inEL bs (names.zip vs) ks) W)):=hd fun W hW=>by
  have hWw:=HE4.o.trans hW;have hz:=zip_in (HK.o.keep hWw) HGL.o;have:=zp_has A ks.length cap (gs.zip ks) 195 #[.pointer (some ⟨b3,0,none⟩),.pointer (some ⟨b3+1,0,none⟩)] (fun y=>!inE bs (names.zip vs) y.2) W hz (by rw[List.length_zip,HGL.o,Nat.min_self]) ⟨enters_inOne,fun i x hx w' hE=>?_⟩
  ·rw[inEL_any gs ks HGL.o] at this;exact this
  ·obtain⟨h1,h2⟩:=List.getElem?_zip_eq_some.1 hx;have hw':=hW.trans hE;have hm:=List.mem_of_getElem? h2;exact inOne_any x.1 b3 (b3+1) cb eb d w' _ ((HB3.o.ext hw' (by simp)).cell 0) ((HB5.o.ext hw' (by simp)).cell 0) (HI.o x.2 hm (HO.o.kids x.2 hm) x.1 n T w' ((HS.o i x.1 x.2 h1 h2).step (HE4.o.trans hw') (by simp) (Nat.le_refl n) fun y hy=>.inl hy) (HB.o.keep (HE4.o.trans hw')) (HV.o.keep (HE4.o.trans hw') (by simp)))
 by_cases h2:h.k=2
 ·have hks:=HO.o.none (by omega);subst hks;have HINX:Hd (inX bs (names.zip vs) h=isWd av):=hd (by unfold inX;rw[if_pos h2,HAV.o]);clear HKIDS;go_wp2_with fail
  refine(isWord_any av w4).mono ?_
  rintro e w5 ⟨rfl,rfl⟩;go_wp2_with fail
  go_ret
  exact⟨ret_bool (by rw[HIN.o,HINX.o];simp[inEL]),HE4.o⟩
 ·have e2:(h.k==2)=false:=by simpa using h2
  by_cases h3:h.k=3
  ·have e3:(h.k==3)=true:=by simpa using h3
   have e4:(h.k==4)=false:=by simp;omega
   obtain⟨bA,bc,hb1,hb2,hb3⟩:=HB.o.keep HE4.o;have hbu:=HO.o.buf (by omega);obtain⟨bi,hbi⟩:∃bi:Nat,h.buf=bi:=⟨h.buf.toNat,by omega⟩;have hbl:bi<bs.length:=by omega
   obtain⟨bb,x,rfl,hbx,hbc⟩:=hb2.at hbl;have hxs:=hb3 x (List.mem_of_getElem? hbx);have HSB:Hd (sizeB bs h.buf=x.size):=hd (sizeB_at hbu.1 (by rw[hbi];exact hbx));have q6:w4.cell? ⟨pb,po+6,none⟩=some (.int .i64 bi):=by rw[<-hbi];exact HE4.o.held (HP.o 6 _ rfl) (by simp)
   have qs:w4.cell? ⟨bb,bi*4+1,none⟩=some (.int .i64 x.size):=hbc 1 _ rfl;have qbl:=World.block_lt_of_cell? w4 _ qs;have qc:=hb1;have qcl:=World.block_lt_of_cell? w4 _ qc;simp only at qbl qcl;generalize hnb:bs.length=nb at qc hbl;have hbn:(bi:Int)<(nb:Int):=by omega
   generalize hsz:x.size=sz at *;clear hb1 hb2 hb3 hbu hbi hbc hbx hsz hnb x;have HINX:Hd (inX bs (names.zip vs) h=(decide (0<=av)&&decide (av<sz))):=hd (by unfold inX;rw[if_neg h2,if_pos h3,HAV.o,HSB.o]);have HEQ:Hd (∀n,Ext [] w (w4.drewN n)):=hd fun n=>HE4.o.drewN _
   have HEX:Hd (∀n,Ext [] w4 (w4.drewN n)):=hd fun n=>(Ext.refl _ _).drewN _
   generalize h.k=hk at *;clear h2 h3;go_upto_region 10 with fail
   have HBD2:=HBD.o;have q3:w4.cell? ⟨b3,0,none⟩=some (.pointer (some ⟨cb,0,none⟩)):=HB3.o.cell 0;have q3l:=HB3.o.lt;by_cases ha:av<0
   ·have e1:decide (av<0)=true:=by simpa using ha
    have HAA:=hd ha;clear ha;go_quiet (fail)
    go_wp2_with fail
    go_ret
    refine⟨ret_bool ?_,by first|exact HEQ.o _|exact(HE4.o.drewN _).drewN _⟩
    rw[HIN.o,HINX.o];have:decide (0<=av)=false:=by have:=HAA.o;simp;omega
    rw[this];simp
   ·have e1:decide (av<0)=false:=by simpa using ha
    have HAA:Hd (decide (0<=av)=true):=hd (by simp;omega);clear ha;by_cases hb:sz<=av
    ·have e5:decide (sz<=av)=true:=by simpa using hb
     have HBB:Hd (decide (av<sz)=false):=hd (by simp;omega);clear hb;go_quiet (fail)
     go_wp2_with fail
     go_ret
     refine⟨ret_bool ?_,by first|exact HEQ.o _|exact(HE4.o.drewN _).drewN _⟩
     rw[HIN.o,HINX.o,HBB.o];simp
    ·have e5:decide (sz<=av)=false:=by simpa using hb
     have HBB:Hd (decide (av<sz)=true):=hd (by simp;omega);clear hb;go_quiet (fail)
     go_wp2_with fail
     refine(HKIDS.o _ (HEX.o _)).mono ?_
     rintro e w6 ⟨rfl,hE⟩;have HE6:=hd (HE4.o.trans ((HEX.o _).trans hE));clear hE HKIDS;go_wp2_with fail
     go_ret
     refine⟨ret_bool ?_,HE6.o⟩
     rw[HIN.o,HINX.o];simp[HAA.o,HBB.o]
  ·have e3:(h.k==3)=false:=by simpa using h3
   by_cases h4:h.k=4
   ·have e4:(h.k==4)=true:=by simpa using h4
    obtain⟨bA,bc,hb1,hb2,hb3⟩:=HB.o.keep HE4.o;have hbu:=HO.o.buf (by omega);obtain⟨bi,hbi⟩:∃bi:Nat,h.buf=bi:=⟨h.buf.toNat,by omega⟩;have hbl:bi<bs.length:=by omega
    obtain⟨bb,x,rfl,hbx,hbc⟩:=hb2.at hbl;have hxs:=hb3 x (List.mem_of_getElem? hbx);have HSB:Hd (sizeB bs h.buf=x.size):=hd (sizeB_at hbu.1 (by rw[hbi];exact hbx));have q6:w4.cell? ⟨pb,po+6,none⟩=some (.int .i64 bi):=by rw[<-hbi];exact HE4.o.held (HP.o 6 _ rfl) (by simp)
    have qs:w4.cell? ⟨bb,bi*4+1,none⟩=some (.int .i64 x.size):=hbc 1 _ rfl;have qbl:=World.block_lt_of_cell? w4 _ qs;have qc:=hb1;have qcl:=World.block_lt_of_cell? w4 _ qc;simp only at qbl qcl;generalize hnb:bs.length=nb at qc hbl;have hbn:(bi:Int)<(nb:Int):=by omega
    generalize hsz:x.size=sz at *;clear hb1 hb2 hb3 hbu hbi hbc hbx hsz hnb x;have hone:=HO.o.one h4;have HINX:Hd (inX bs (names.zip vs) h=(decide (0<=av)&&decide (av+h.n*(h.m-1)<sz))):=hd (by unfold inX;rw[if_neg h2,if_neg h3,if_pos h4,HAV.o,HSB.o]);have qn:w4.cell? ⟨pb,po+4,none⟩=some (.int .i64 h.n):=HE4.o.held (HP.o 4 _ rfl) (by simp);have qm:w4.cell? ⟨pb,po+5,none⟩=some (.int .i64 h.m):=HE4.o.held (HP.o 5 _ rfl) (by simp);have hpr:0<=h.n*(h.m-1)/\h.n*(h.m-1)<=100000*262144:=⟨Int.mul_nonneg (by omega) (by omega),Int.mul_le_mul (by omega) (by omega) (by omega) (by omega)⟩;generalize hpe:h.n*(h.m-1)=pr at *;obtain⟨-,⟨n1,n2⟩,⟨m1,m2⟩,-⟩:=hone;generalize h.n=en at *;generalize h.m=em at *;generalize h.k=hk at *;clear h2 h3 h4;have hpe1 : -9223372036854775808<=en*(em-1):=by rw[hpe];omega
    have hpe2:en*(em-1)<=9223372036854775807:=by rw[hpe];omega
    have hpe3 : -9223372036854775808<=av+en*(em-1):=by rw[hpe];have:=HBD.o.1;omega
    have hpe4:av+en*(em-1)<=9223372036854775807:=by rw[hpe];have:=HBD.o.2;omega
    have HPE:=hd hpe;have HBD3:=HBD.o;go_upto_region 9 with fail
    clear hpe;go_quiet (fail)
    rw[HPE.o];go_upto_region 10 with fail
    have HEQ:Hd (∀n,Ext [] w (w4.drewN n)):=hd fun n=>HE4.o.drewN _
    have HEX:Hd (∀n,Ext [] w4 (w4.drewN n)):=hd fun n=>(Ext.refl _ _).drewN _
    have HBD2:=HBD.o;have q3:w4.cell? ⟨b3,0,none⟩=some (.pointer (some ⟨cb,0,none⟩)):=HB3.o.cell 0;have q3l:=HB3.o.lt;by_cases ha:av<0
    ·have e1:decide (av<0)=true:=by simpa using ha
     have HAA:=hd ha;clear ha;go_quiet (fail)
     go_wp2_with fail
     go_ret
     refine⟨ret_bool ?_,by first|exact HEQ.o _|exact(HE4.o.drewN _).drewN _⟩
     rw[HIN.o,HINX.o];have:decide (0<=av)=false:=by have:=HAA.o;simp;omega
     rw[this];simp
    ·have e1:decide (av<0)=false:=by simpa using ha
     have HAA:Hd (decide (0<=av)=true):=hd (by simp;omega);clear ha;by_cases hb:sz<=(av+pr)
     ·have e5:decide (sz<=(av+pr))=true:=by simpa using hb
      have HBB:Hd (decide ((av+pr)<sz)=false):=hd (by simp;omega);clear hb;go_quiet (fail)
      go_wp2_with fail
      go_ret
      refine⟨ret_bool ?_,by first|exact HEQ.o _|exact(HE4.o.drewN _).drewN _⟩
      rw[HIN.o,HINX.o,HBB.o];simp
     ·have e5:decide (sz<=(av+pr))=false:=by simpa using hb
      have HBB:Hd (decide ((av+pr)<sz)=true):=hd (by simp;omega);clear hb;go_quiet (fail)
      go_wp2_with fail
      refine(HKIDS.o _ (HEX.o _)).mono ?_
      rintro e w6 ⟨rfl,hE⟩;have HE6:=hd (HE4.o.trans ((HEX.o _).trans hE));clear hE HKIDS;go_wp2_with fail
      go_ret
      refine⟨ret_bool ?_,HE6.o⟩
      rw[HIN.o,HINX.o];simp[HAA.o,HBB.o]
   ·have e4:(h.k==4)=false:=by simpa using h4
    have HINX:Hd (inX bs (names.zip vs) h=true):=hd (by unfold inX;rw[if_neg h2,if_neg h3,if_neg h4]);generalize h.k=hk at *;clear h2 h3 h4;go_wp2_with fail
    refine(HKIDS.o _ (Ext.refl [] w4)).mono ?_
    rintro e w6 ⟨rfl,hE⟩;have HE6:=hd (HE4.o.trans ((Ext.refl [] w4).trans hE));clear hE HKIDS;go_wp2_with fail
    go_ret
    refine⟨ret_bool ?_,HE6.o⟩
    rw[HIN.o,HINX.o];simp
section
structure StoAt (w:World)(g:Nat)(names:List ByteArray)(nb:Nat)(h:SH)(no:Nat):Prop where
 ptr:∃(pb po:Nat) (vb n:Nat) (T:List Nat),w.cell? ⟨g,0,none⟩=some (.pointer (some ⟨pb,po,none⟩))/\w.cell? ⟨pb,po+8,none⟩=some (.int .i64 h.buf)/\w.cell? ⟨g,16,none⟩=some (ptV vb)/\CEx w n T names vb h.val
 line:∀(j:Nat) (v:Value),(lnArr h.at_.base (coefS names h.at_.ts)).toList[j]? = some v->w.cell? ⟨g,7+j,none⟩=some v
 no:w.cell? ⟨g,5,none⟩=some (.int .i64 no)
 aff:affE names h.at_=0
 val:exprE names nb h.val=0
 buf:0<=h.buf/\h.buf<nb
attribute [local irreducible] relAt
set_option maxHeartbeats 8000000 in
set_option maxRecDepth 100000 in
theorem inside_any (bs:List Bf)(cb eb:Nat)(names:List ByteArray)(vs:List Int)(hl:vs.length=names.length)(g:Nat)(h:SH)(no:Nat)(w:World)(hS:StoAt w g names bs.length h no)(hB:CodB w cb bs)(hV:EnvR w eb vs) :
  Calls Tryz.prog 102 #[.pointer (some ⟨cb,0,none⟩),ptV g,.slice (some ⟨eb,0,none⟩) vs.length 8] w (HasP (inI bs ⟨no,h,names.zip vs⟩) w):=by
 have HB:=hd hB;have HV:=hd hV;have HL:=hd hl;have HAO:=hd (AffOk.of hS.aff);have HS:=hd hS;obtain⟨⟨pb,po,vb,n,T,h0,h8,h16,hx⟩,hln,-,-,hval,hbuf⟩:=hS;have HX:=hd hx;have HLN:=hd hln;have HVA:=hd hval;have HEX:=hd (fun W (hW:Ext [] w W)=>exIn_any bs cb eb names vs hl h.val hval vb n T W (hx.step hW (by simp) (Nat.le_refl n) fun y hy=>.inl hy) (hB.keep hW) (hV.keep hW (by simp)));have HAFF:=hd (aff_any g 7 names h.at_ eb vs w hln hV HAO.o hl)
 have HBD:Hd (-100000000000<=evA (names.zip vs) h.at_/\evA (names.zip vs) h.at_<=100000000000):=hd (by
  rw[<-HAO.o.val hl];exact lnV_bdd HAO.o hV.2.1 hV.1)
 have HIN:Hd (inI bs ⟨no,h,names.zip vs⟩=(decide (0<=evA (names.zip vs) h.at_)&&decide (evA (names.zip vs) h.at_<sizeB bs h.buf)&&inE bs (names.zip vs) h.val)):=hd rfl;have hgl:=World.block_lt_of_cell? w _ h0;have hpl:=World.block_lt_of_cell? w _ h8;simp only at hgl hpl;have H0:=hd h0;have H8:=hd h8;have H16:=hd h16;have HBU:=hd hbuf;clear hl hB hV hx hln hval h0 h8 h16 hbuf;generalize hd':vs.length=d at *;have HD:=hd hd';clear hd';generalize hA:evA (names.zip vs) h.at_=av at *;have HAV:=hd hA;clear hA;obtain⟨bA,bc,hb1,hb2,hb3⟩:=HB.o;obtain⟨bi,hbi⟩:∃bi:Nat,h.buf=bi:=⟨h.buf.toNat,by have:=HBU.o;omega⟩;have hbl:bi<bs.length:=by have:=HBU.o;omega
 obtain⟨bb,x,rfl,hbx,hbc⟩:=hb2.at hbl;have hxs:=hb3 x (List.mem_of_getElem? hbx);have HSB:Hd (sizeB bs h.buf=x.size):=hd (sizeB_at HBU.o.1 (by rw[hbi];exact hbx));have q6:w.cell? ⟨pb,po+8,none⟩=some (.int .i64 bi):=by rw[<-hbi];exact H8.o
 have qs:w.cell? ⟨bb,bi*4+1,none⟩=some (.int .i64 x.size):=hbc 1 _ rfl;have qbl:=World.block_lt_of_cell? w _ qs;have qcl:=World.block_lt_of_cell? w _ hb1;simp only at qbl qcl;have HB1:=hd hb1;rw[HSB.o] at HIN;generalize hnb:bs.length=nb at *;have hbn:(bi:Int)<(nb:Int):=by omega
 generalize hsz:x.size=sz at *;have HQ6:=hd q6;have HQS:=hd qs;clear hb1 hb2 hb3 hbi hbc hbx hsz hnb q6 qs;unfold ptV;go_enter Tryz.func102,Tryz.ntmps102
 go_wp2_with fail
 refine HAFF.o.mono ?_
 rintro e w1 ⟨rfl,hE⟩;have HE1:=hd hE;clear hE HAFF;have HG0:=hd (HE1.o.held H0.o (by simp));have HG16:=hd (HE1.o.held H16.o (by simp));have HC0:=hd (HE1.o.held HB1.o (by simp));have HB8:=hd (HE1.o.held HQ6.o (by simp));have HS1:=hd (HE1.o.held HQS.o (by simp));have hgl1:=Nat.lt_of_lt_of_le hgl HE1.o.size;have hpl1:=Nat.lt_of_lt_of_le hpl HE1.o.size;have hbl1:=Nat.lt_of_lt_of_le qbl HE1.o.size;have hcl1:=Nat.lt_of_lt_of_le qcl HE1.o.size;by_cases ha:av<0
 ·have e1:decide (0<=av)=false:=by simp;omega
  have HI2:Hd (inI bs ⟨no,h,names.zip vs⟩=false):=hd (by rw[HIN.o,e1];simp);go_wp2_with fail
  refine wp_region_rel 28 (JE _) (Ext []) (kinds []) (by kernel_rfl) (by kernel_rfl) JE.less ?_ JE.start ?_
  ·repeat(first|exact Stays.nil|refine Stays.cons sFix.stays ?_)
  simp only[List.take_succ_cons,List.take_zero,List.drop_succ_cons,List.drop_zero]
  repeat
   refine relAt_det rfl rfl ?_
   apply Exists.intro
   refine⟨fun wr nr hJ=>?_,?_⟩
   ·skip
    clear hJ;(go_simp;try go_bits)
    first|rfl|exact⟨rfl,rfl⟩
   simp only[Act.put,List.setIfInBounds_toArray,List.set_cons_succ,List.set_cons_zero]
  iterate 17
   refine relAt_skip rfl ?_
   simp only[Act.put,List.setIfInBounds_toArray,List.set_cons_succ,List.set_cons_zero]
  repeat
   refine relAt_det rfl rfl ?_
   apply Exists.intro
   refine⟨fun wr nr hJ=>?_,?_⟩
   ·skip
    clear hJ;(go_simp;try go_bits)
    first|rfl|exact⟨rfl,rfl⟩
   simp only[Act.put,List.setIfInBounds_toArray,List.set_cons_succ,List.set_cons_zero]
  iterate 6
   refine relAt_skip rfl ?_
   simp only[Act.put,List.setIfInBounds_toArray,List.set_cons_succ,List.set_cons_zero]
  refine relAt_nil (fun w3 hJ hF=>?_)
  have HE3:=hd (HE1.o.trans hJ);clear hF hJ;go_wp2_with fail
  go_ret
  exact⟨ret_bool HI2.o.symm,HE3.o⟩
 ·have e1:decide (0<=av)=true:=by simp;omega
  by_cases hb:av<sz
  ·have e2:decide (av<sz)=true:=by simpa using hb
   have HI2:Hd (inI bs ⟨no,h,names.zip vs⟩=inE bs (names.zip vs) h.val):=hd (by rw[HIN.o,e1,e2];simp);go_wp2_with fail
   refine wp_region_rel 28 (JE _) (Ext []) (kinds []) (by kernel_rfl) (by kernel_rfl) JE.less ?_ JE.start ?_
   ·repeat(first|exact Stays.nil|refine Stays.cons sFix.stays ?_)
   simp only[List.take_succ_cons,List.take_zero,List.drop_succ_cons,List.drop_zero]
   repeat
    refine relAt_det rfl rfl ?_
    apply Exists.intro
    refine⟨fun wr nr hJ=>?_,?_⟩
    ·have qg:=Ext.held hJ HG0.o (by simp);have qv:=Ext.held hJ HG16.o (by simp);have qc:=Ext.held hJ HC0.o (by simp);have qb:=Ext.held hJ HB8.o (by simp);have qs:=Ext.held hJ HS1.o (by simp);have lg:=Nat.lt_of_lt_of_le hgl1 hJ.size;have lp:=Nat.lt_of_lt_of_le hpl1 hJ.size;have lb:=Nat.lt_of_lt_of_le hbl1 hJ.size;have lc:=Nat.lt_of_lt_of_le hcl1 hJ.size;clear hJ;(go_simp;try go_bits)
     first|rfl|exact⟨rfl,rfl⟩
    simp only[Act.put,List.setIfInBounds_toArray,List.set_cons_succ,List.set_cons_zero]
   refine relAt_nil (fun w3 hJ hF=>?_)
   have HE3:=hd (HE1.o.trans hJ);clear hF hJ;go_wp2_with fail
   refine(HEX.o w3 HE3.o).mono ?_
   rintro e w4 ⟨rfl,hE⟩;have HE4:=hd (HE3.o.trans hE);clear hE;go_wp2_with fail
   go_ret
   exact⟨ret_bool HI2.o.symm,HE4.o⟩
  ·have e2:decide (av<sz)=false:=by simpa using hb
   have HI2:Hd (inI bs ⟨no,h,names.zip vs⟩=false):=hd (by rw[HIN.o,e1,e2];simp);go_wp2_with fail
   refine wp_region_rel 28 (JE _) (Ext []) (kinds []) (by kernel_rfl) (by kernel_rfl) JE.less ?_ JE.start ?_
   ·repeat(first|exact Stays.nil|refine Stays.cons sFix.stays ?_)
   simp only[List.take_succ_cons,List.take_zero,List.drop_succ_cons,List.drop_zero]
   repeat
    refine relAt_det rfl rfl ?_
    apply Exists.intro
    refine⟨fun wr nr hJ=>?_,?_⟩
    ·have qg:=Ext.held hJ HG0.o (by simp);have qv:=Ext.held hJ HG16.o (by simp);have qc:=Ext.held hJ HC0.o (by simp);have qb:=Ext.held hJ HB8.o (by simp);have qs:=Ext.held hJ HS1.o (by simp);have lg:=Nat.lt_of_lt_of_le hgl1 hJ.size;have lp:=Nat.lt_of_lt_of_le hpl1 hJ.size;have lb:=Nat.lt_of_lt_of_le hbl1 hJ.size;have lc:=Nat.lt_of_lt_of_le hcl1 hJ.size;clear hJ;(go_simp;try go_bits)
     first|rfl|exact⟨rfl,rfl⟩
    simp only[Act.put,List.setIfInBounds_toArray,List.set_cons_succ,List.set_cons_zero]
   iterate 6
    refine relAt_skip rfl ?_
    simp only[Act.put,List.setIfInBounds_toArray,List.set_cons_succ,List.set_cons_zero]
   refine relAt_nil (fun w3 hJ hF=>?_)
   have HE3:=hd (HE1.o.trans hJ);clear hF hJ;go_wp2_with fail
   go_ret
   exact⟨ret_bool HI2.o.symm,HE3.o⟩
end
def rdX (h:EH):Nat:=if h.k=3 then 1 else if h.k=4 then h.m.toNat else 0
mutual
def rdE:Ex->Nat|.mk h ks=>rdX h+rdEL ks
def rdEL:List Ex->Nat | []=>0|e :: r=>rdE e+rdEL r
end
theorem rdEL_append (a b:List Ex):rdEL (a ++ b)=rdEL a+rdEL b:=by
 induction a with
 | nil=>simp[rdEL]
 | cons e a ih=>simp only[List.cons_append,rdEL,ih];omega
theorem rdEL_take {l:List Ex}{j:Nat}{e:Ex}(h:l[j]? = some e):rdEL (l.take (j+1))=rdEL (l.take j)+rdE e:=by
 rw[List.take_add_one,h,rdEL_append];simp[rdEL]
theorem rdEL_le {l:List Ex}{j:Nat}:rdEL (l.take j)<=rdEL l:=by
 have:=rdEL_append (l.take j) (l.drop j);rw[List.take_append_drop] at this;omega
mutual
theorem rdE_le {names:List ByteArray}{nb:Nat}:∀e:Ex,exprE names nb e=0->rdE e<=262144*parts e
 | .mk h ks,hx=>by
  have h1:=rdEL_bd ks (exprE_spec hx).2
  have h2:rdX h<=262144:=by
   unfold rdX;split
   ·omega
   split
   ·rename_i h4
    have:=((ExOk.of hx).one h4).2.2.1;omega
   ·omega
  simp only[rdE,parts];omega
theorem rdEL_bd {names:List ByteArray}{nb:Nat}:∀l:List Ex,(∀e∈l,exprE names nb e=0)->rdEL l<=262144*partsL l
 | [],_=>by simp[rdEL]
 | e :: l,hx=>by
  have h1:=rdE_le e (hx e (List.mem_cons_self ..));have h2:=rdEL_bd l fun e he=>hx e (List.mem_cons_of_mem _ he)
  simp only[rdEL,partsL];omega
end
set_option maxHeartbeats 8000000 in
set_option maxRecDepth 100000 in
theorem width_any (names:List ByteArray)(nb:Nat):∀e:Ex,exprE names nb e=0->parts e<=1000000->∀(cn:List ByteArray) (g n:Nat) (T:List Nat) (w:World),CEx w n T cn g e->
  Calls Tryz.prog 137 #[ptV g] w fun r w'=>r=.returned (.int .i64 (rdE e:Nat))/\Ext [] w w':=by
 refine ex_ind fun h ks ih=>?_
 intro hx hp cn g n T w hC;have HI:=hd ih;have HO:=hd (ExOk.of hx);have hle:=rdE_le _ hx;have hbd:rdE (.mk h ks)<=262144000000:=Nat.le_trans hle (Nat.mul_le_mul_left 262144 hp);have HRD:Hd (rdE (.mk h ks)=rdX h+rdEL ks):=hd (by rw[rdE]);have hpl:partsL ks<=1000000:=by rw[parts] at hp;omega
 have HPL:=hd (fun j e (hj:ks[j]? = some e)=>(show parts e<=1000000 by
  have h1:=partsL_take hj;have h2:partsL (ks.take (j+1))<=partsL ks:=partsL_le;omega))
 obtain⟨pb,po,A,cap,gs,hg,hp',hk,hgl,hs⟩:∃(pb po:Nat) (A:Option Addr) (cap:Nat) (gs:List Nat),Blk w g 271 (ceArr pb po h.at_.base (coefS cn h.at_.ts) (.slice A ks.length cap))/\(∀(j:Nat) (v:Value),(exH h ks.length)[j]? = some v->w.cell? ⟨pb,po+j,none⟩=some v)/\SeqIn w A 1 ptC gs/\gs.length=ks.length/\∀(i g':Nat) (e':Ex),gs[i]? = some g'->ks[i]? = some e'->CEx w n T cn g' e':=by
  cases hC
  exact⟨_,_,_,_,_,by assumption,by assumption,by assumption,by assumption,by assumption⟩
 have HG:=hd hg;have HP:=hd hp';have HK:=hd hk;have HGL:=hd hgl;have HS:=hd hs;have qg0:w.cell? ⟨g,0,none⟩=some (.pointer (some ⟨pb,po,none⟩)):=HG.o.cell 0;have qg10:w.cell? ⟨g,10,none⟩=some (.slice A ks.length cap):=HG.o.cell 10;have qgl:=HG.o.lt;have qk:w.cell? ⟨pb,po,none⟩=some (.int .i64 h.k):=HP.o 0 _ rfl;have qm:w.cell? ⟨pb,po+5,none⟩=some (.int .i64 h.m):=HP.o 5 _ rfl;have qpl:=World.block_lt_of_cell? w _ qk;simp only at qpl;have hn9:gs.length<=1000000:=HK.o.1
 have HRX:Hd (h.k=4->(rdX h:Int)=h.m):=hd fun h4=>by
  have:=(HO.o.one h4).2.2.1;unfold rdX;rw[if_neg (by omega),if_pos h4];omega
 have HR3:Hd (h.k=3->rdX h=1):=hd fun h3=>by unfold rdX;rw[if_pos h3]
 have HR0:Hd (h.k≠3->h.k≠4->rdX h=0):=hd fun h3 h4=>by unfold rdX;rw[if_neg h3,if_neg h4]
 clear ih hx hC hg hp' hk hgl hs hp hle;unfold ptV;have HKX:=hd (HO.o.kids);generalize hR:rdE (.mk h ks)=R at *;clear hR;generalize hX:rdX h=X at *;clear hX;generalize hkl:ks.length=m at *;have HKL:=hd hkl;clear hkl;go_enter Tryz.func137,Tryz.ntmps137
 go_upto_block 0 with fail
 go_cut [3] (fun s wx=>s=.int .i64 (X:Nat)/\wx=w)
 case first=>
  by_cases h3:h.k=3
  ·have hx:=HR3.o h3;have e3:(h.k==3)=true:=by simpa using h3
   clear h3;go_wp2_with fail
   go_meet
   exact⟨by rw[hx];rfl,rfl⟩
  ·by_cases h4:h.k=4
   ·have hx:=HRX.o h4;have e3:(h.k==3)=false:=by simpa using h3
    have e4:(h.k==4)=true:=by simpa using h4
    have HXX:=hd hx;clear h3 h4 hx;go_wp2_with fail
    go_meet
    exact⟨by rw[HXX.o],rfl⟩
   ·have hx:=HR0.o h3 h4;have e3:(h.k==3)=false:=by simpa using h3
    have e4:(h.k==4)=false:=by simpa using h4
    clear h3 h4;go_wp2_with fail
    go_meet
    exact⟨by rw[hx];rfl,rfl⟩
 case rest=>
  obtain⟨rfl,hw⟩:=hcut;have hw':=hw.symm;subst hw';have HRL:=hd (fun j=>@rdEL_le ks j);have hrb:X+rdEL ks<=262144000000:=by have:=HRD.o;omega
  generalize hrl:rdEL ks=RL at *;have HRE:=hd hrl;clear hrl hbd;go_wp2_with fail
  clear qg0 qg10 qgl qk qm qpl;have hm9:m<=1000000:=by have h1:=HGL.o;have h2:=HKL.o;omega
  go_loopw [3,29] (fun z i wr=>∃k:Nat,i=.int .i64 k/\z=.int .i64 (X+rdEL (ks.take k):Nat)/\k<=m/\Hd (Ext [] w wr)) (fun _ i _=>(m-intOf i).toNat)
  case atStart=>exact⟨0,rfl,by simp[rdEL],Nat.zero_le _,hd (Ext.refl _ _)⟩
  case round=>
   obtain⟨k,rfl,rfl,hk,HE⟩:=hrel;rename World=>wq
   by_cases hlt:k<m
   ·obtain⟨bb,g',rfl,hg',hgc⟩:=(HK.o.keep HE.o).at (i:=k) (by have:=HGL.o;have:=HKL.o;omega);have qa:wq.cell? ⟨bb,k,none⟩=some (.pointer (some ⟨g',0,none⟩)):=by have:=hgc 0 _ rfl;rw[Nat.mul_one,Nat.add_zero] at this;exact this
    have qal:=World.block_lt_of_cell? wq _ qa;simp only at qal;obtain⟨x,hx⟩:∃x,ks[k]? = some x:=⟨_,List.getElem?_eq_getElem (show k<ks.length by have:=HKL.o;omega)⟩;have hmem:=List.mem_of_getElem? hx;have HTK:=hd (rdEL_take hx);have hle:rdEL (ks.take (k+1))<=RL:=HRL.o (k+1);rw[HTK.o] at hle;have HCC:=hd (HI.o _ hmem (HKX.o _ hmem) (HPL.o k _ hx) cn g' n T wq ((HS.o k g' _ hg' hx).step HE.o (by simp) (Nat.le_refl n) fun y hy=>.inl hy));generalize rdEL (ks.take k)=P at *;generalize rdE x=Y at *;have HLE:=hd hle;unfold ptV at HCC;clear hg' hgc hx hmem;go_wp2_with fail
    refine HCC.o.mono ?_
    rintro r w2 ⟨rfl,hE⟩;have HE2:=hd (HE.o.trans hE);clear hE;go_wp2_with fail
    go_roundw
    case rel=>exact⟨k+1,by go_num,by rw[HTK.o];first|rfl|(congr 1;push_cast;omega),by omega,HE2⟩
    case measure=>simp[intOf];omega
   ·have hkm:k=m:=by omega
    subst hkm;have HT:Hd (ks.take k=ks):=hd (List.take_of_length_le (by have:=HKL.o;omega));go_wp2_with fail
    go_ret
    exact⟨ret_int (by rw[HT.o,HRD.o,HRE.o]),HE.o⟩
end Go.Proofs.YtfppibmloloakaaGreatDoor
