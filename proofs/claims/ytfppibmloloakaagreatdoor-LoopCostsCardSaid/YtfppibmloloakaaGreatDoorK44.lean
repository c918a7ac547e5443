import Derived.Test.YtfppibmloloakaaGreatDoorK43
namespace Go.Proofs.YtfppibmloloakaaGreatDoor
open Go.RowKit Go.Proofs.Tryz
set_option linter.all false
set_option maxHeartbeats 64000000
def SpxP (Q:Nat->Prop)(M K base g n:Nat)(w:World)(e:Ending)(w':World):Prop:=∃e':Ex,e=.returned (exV e')/\ExA Q M w' e'/\Al e'<=K/\Ext [g] w w'/\Stm w' base g n
def Akw (e:Ex):Prop:=∀(P Q:Nat->Prop) (N base g n:Nat) (w:World),(∀b,P b->Q b)->(∀b,w.heap.size<=b->Q b)->(∀b,P b->b<w.heap.size)->¬P g->N<=1000->ExA P N w e->Stm w base g (n+60*Al e)->
 Calls prog 158 #[.pointer (some g),exV e] w (SpxP Q (2*N+40) (Al e+40) base g n w)
def sSx (P:Nat->Prop)(H M K:Nat):Ba:=⟨Ex,Aji,exV,fun x w=>ExA (fun b=>P b\/H<=b) M w x/\Al x<=K⟩
theorem sSx.stays {P:Nat->Prop}{H M K g:Nat}(hP:¬P g)(hg:g<H):∀y w w',Ext [g] w w'->(sSx P H M K).V y w->(sSx P H M K).V y w':=fun y w w' hE h=>⟨ExA.ext hE (fun x hx hh=>by rw[jA.1 hx] at hh;rcases hh with e|e;exact hP e;omega) h.1,h.2⟩
theorem Qh (x:Ex):∀l:List Ex,Ap (l ++ [x])=Ap l+Al x
 | []=>by simp[Ap]
 | y :: l=>by rw[List.cons_append,Ap,Qh x l,Ap];omega
def Jl:Ex:=.mk ⟨1,0,0,0,0,0,0,Xf,none,0⟩ []
theorem Ab6:prog.built 41 [(0,.int .i64 1)]=some (An Jl):=by kernel_rfl
theorem Akx (P:Nat->Prop)(N:Nat)(w:World):ExA P N w Jl:=.mk _ _ (Ao.nil ..) (Ao.nil ..) (fun e h=>by cases h)
def Ae6 (b:Nat)(x:Ex):Ex:=.mk ⟨5,11,0,0,0,0,0,Xf,some b,1⟩ [x]
theorem Ab7 (b:Nat)(x:Ex):prog.built 41 [(0,.int .i64 5),(1,.int .i64 11),(8,.slice (some b) 1 1)]=some (An (Ae6 b x)):=by kernel_rfl
theorem SpX.nest {w wx wy:World}{Q:Nat->Prop}{M base g n rb eb:Nat}{h:EH}{ks:List Ex}(s:SpX w Q M base g n rb eb h ks wx)(hM:1<=M)(hQ:∀b,wx.heap.size<=b->Q b){b:Nat}(hb:wx.heap.size<=b)(hE:Ext [eb] wx wy)(hB:Blk wy eb 41 (An (Ae6 b (.mk h ks))))(hN:Blk wy b 41 (An (.mk h ks))) :
  SpX w Q M base g n rb eb ⟨5,11,0,0,0,0,0,Xf,some ⟨b,0,none⟩,1⟩ [.mk h ks] wy:=by
 have h0:=s.g0;have h1:=s.eb0;have h2:=s.ebr;have h3:=s.bg;have h4:=s.res.lt;have h5:=s.stm.lt;refine⟨s.ext.step hE fun q hq=>.inr (by rw[jA.1 hq];exact s.eb0),s.stm.ext hE (by rw[jA];omega) (fun q hq=>by rw[jA.1 hq];omega),s.res.ext hE (by rw[jA];omega),hB,?_,s.eb0,s.ebr,s.g0,s.bg⟩
 refine .mk _ _ (Ao.nil ..) ⟨by rw[jS];exact hM,.inr ⟨b,rfl,⟨hQ b hb,by omega,by omega,by omega⟩,hN.lt,fun i x hx j v hv=>?_⟩⟩ fun e he=>?_
 ·have hi:=(ils hx).1;rw[jS] at hi;have:i=0:=by omega
  subst this;cases hx
  rw[Nat.zero_mul,Nat.zero_add,hN.cell,<-Array.getElem?_toList,<-Ey];exact hv
 ·rw[jA.1 he];exact ExA.ext hE (fun x hx hh=>hh.2.1 (jA.1 hx)) s.kid
set_option maxRecDepth 100000 in
theorem Ah8 (h:EH)(ks:List Ex)(ih:∀e∈ks,Akw e):Akw (.mk h ks):=by
 intro P Q N base g n w hPQ hQ hPB hPg hN hX hS;have HS:=hd hS;have hg:=hS.lt;have bD:=hS.base;have HX:=hd hX;have HI:=hd ih;have b5:=hd hPQ;have HQ:=hd hQ;have am:=hd hPg;have ap:=hd hPB;have cg:ks.length<=N:=hX.all.2.1.1;clear hS hX ih hPQ hQ hPg hPB;have b6:exV (.mk h ks)=.agg (An (.mk h ks)):=Cq _;rw[b6];clear b6;unfold An;simp only[Ex.h,Ex.ks];generalize hl:ks.length=L at *;have HL:=hd hl;clear hl;go_enter func158,ntmps158
 go_upto_region 1 with fail
 have bE:=hd (Adi (.mk h ks));have aO:An (.mk h ks)=#[.int .i64 h.k,.int .i64 h.op,.int .i64 h.lo,.int .i64 h.hi,.int .i64 h.n,.int .i64 h.m,.int .i64 h.buf,.int .i64 h.at_.base,.slice h.at_.A h.at_.ts.length h.at_.cap,.slice h.A L h.cap]:=by rw[<-HL.o];rfl
 have ag:=hd aO;rw[<-aO];clear aO;have aw:=hd (((jF [g] w).alloc (.cells (An (.mk h ks)) 41)).alloc (.cells zEx 41));have b7:=hd ((jK w 41 (An (.mk h ks))).alloc (.cells zEx 41));have aP:=hd (jK (w.alloc (.cells (An (.mk h ks)) 41)) 41 zEx);have b8:=hd ((HS.o.alloc (.cells (An (.mk h ks)) 41)).alloc (.cells zEx 41));rw[Ag] at aP;have aQ:=hd (ExA.ext aw.o (fun x hx hp=>am.o (jA.1 hx ▸ hp)) HX.o);have aK:Hd (ExA (fun b=>Q b/\b≠w.heap.size/\b≠w.heap.size+1/\b≠g) (2*N+40) ((w.alloc (.cells (An (.mk h ks)) 41)).alloc (.cells zEx 41)) (.mk h ks)):=hd (ExA.ext aw.o (fun x hx hp=>hp.2.2.2 (jA.1 hx)) (ExA.mono (fun b hb hp=>⟨b5.o b hp,by omega,by omega,fun e=>am.o (e ▸ hp)⟩) (by omega) HX.o));change Code.wp _ _ _ _ ((w.alloc (.cells (An (.mk h ks)) 41)).alloc (.cells zEx 41));generalize World.alloc (World.alloc w _) _=w1 at *;have ao:Hd (SpX w Q (2*N+40) base g (n+60*Al (.mk h ks)) (w.heap.size+1) w.heap.size h ks w1):=hd ⟨aw.o,b8.o,aP.o,b7.o,aK.o,jD _,by omega,hg,bD⟩;have ci:=hd aw.o.size;clear aw b7 aP b8 aK;generalize cn:w.heap.size=eb at *;generalize hB:60*Al (.mk h ks)=B at *;have bF:60<=B:=by have:=bE.o;omega
 go_cut [13] (fun s wx=>∃b:Bool,s=.bool b/\(b=true->0<L)/\Hd (ExA P N wx (.mk h ks))/\Hd (SpX w Q (2*N+40) base g (n+B-1) (eb+1) eb h ks wx))
 case first=>
  have qb:=ao.o.blk.cell;have aa:=ao.o.blk.frozen;have ab:=ao.o.blk.lt;rw[ag.o] at qb;by_cases hz:L=0
  ·subst hz;have h0:decide ((0:Int)<0)=false:=by decide
   go_wp2_with fail
   go_meet
   exact⟨false,rfl,by simp,aQ,hd (ao.o.less (by omega))⟩
  ·have h0:decide ((0:Int)<L)=true:=decide_eq_true (by omega);go_wp2_with fail
   refine(Gf base g (n+B-1) 2 w1 (ao.o.stm.less (by omega)) (by omega)).mono ?_
   rintro e w2 ⟨fl,rfl,hE,hS⟩;have ae:=hd (ao.o.draw hE hS);have aq:=hd (ExA.ext hE (fun x hx hp=>am.o (jA.1 hx ▸ hp)) aQ.o);clear hE hS;go_wp2_with fail
   go_meet
   exact⟨fl,rfl,fun _=>by omega,aq,ae⟩
 case rest=>
  obtain⟨b,rfl,bv,aq,ae⟩:=hcut;clear ao aQ;cases b with
  | true=>
   have hL:=bv rfl;obtain⟨c5,aH,bx⟩:=aq.o.all;have ba:=hd bx;have qb:=ae.o.blk.cell;have aa:=ae.o.blk.frozen;have ab:=ae.o.blk.lt;rw[ag.o] at qb;have bb:=ae.o.g0;have ax:=ae.o.res.lt;have HC:=hd (Zv P N h.A L h.cap ks wc aH HL.o (by omega));clear aH bx bv;go_wp2_with fail
   refine HC.o.mono ?_
   rintro e w5 ⟨v,rfl,ho,hE⟩;obtain⟨cA,cc,rfl,-,bz⟩:=Bg ho;obtain⟨q,rfl,cm,-⟩:=bz hL;have aR:=hd ho;have a8:=hd (ae.o.draw hE.nil (ae.o.stm.ext hE (by simp) (by simp)));have bc:=hd (fun e he=>ExA.ext hE (by simp) (ba.o e he));have bd:=hd (Ao.ext c5 hE (by simp));clear ho hE bz qb aa ab HC ba;have qb:=a8.o.blk.cell;have aa:=a8.o.blk.frozen;have ab:=a8.o.blk.lt;rw[ag.o] at qb;go_wp2_with fail
   have ai:Hd (Ext [eb] w5 (w5.setCell ⟨eb,9,none⟩ (.slice (some q) L cc))):=hd (jL (.inl (by simp)) (jF _ _));have bG:q≠eb:=by omega
   have ay:=hd (Ah aR.o ai.o fun y hy=>by cases hy;rw[jA];exact bG);have be:=hd (fun e he=>ExA.ext ai.o (fun x hx hp=>by have:=ap.o x hp;rw[jA.1 hx] at this;omega) (bc.o e he))
   have a1:=hd (a8.o.setH 9 (.slice (some q) L cc) {h with A:=some q,cap:=cc } ks (by simp[An,Ex.h,Ex.ks,HL.o]) (by
    obtain⟨k1,-,k3⟩:=a8.o.kid.all;have au:w5.ownsRow wc.heap.size 41 10 (.slice (some q) L cc) ks.length (ks.flatMap exC):=by rw[HL.o];exact aR.o
    exact .mk _ _ k1 (Ao.own (P:=fun b=>Q b/\b≠eb/\b≠eb+1/\b≠g) (N:=2*N+40) Hx au (by rw[HL.o];omega) (by decide) (fun q _ h1 _=>⟨HQ.o q (by have:=ae.o.eb0;omega),by omega,by omega,by have:=ae.o.stm.lt;omega⟩)).2 k3))
   refine(Cb base g (n+B-2) L _ (a1.o.stm.less (by omega)) (by omega)).mono ?_
   rintro e w7 ⟨i,rfl,hi,hE,hS⟩;obtain⟨j,rfl⟩:∃j:Nat,i=j:=⟨i.toNat,by omega⟩;have hj:j<L:=by omega
   have cj:(j:Int)<L:=by omega
   have bf:q≠g:=by have:=ae.o.stm.lt;omega
   have bH:w.heap.size<=q:=by have:=ae.o.ext.size;omega
   have a7:=hd (a1.o.draw hE hS);have aL:=hd (Ah ay.o hE fun y hy=>by cases hy;rw[jA];exact bf);have az:∀x∈[g],¬P x:=fun x hx hp=>am.o (jA.1 hx ▸ hp)
   have aS:=hd (fun e he=>ExA.ext hE az (be.o e he));have bh:Hd (AfA P N w7 h.at_):=hd (Ao.ext (Ao.ext bd.o ai.o (fun x hx hp=>by have:=ap.o x hp;rw[jA.1 hx] at this;omega)) hE az);have bi:Hd (eb+1<w7.heap.size):=hd a7.o.res.lt;clear hE hS hi ae a8 a1 aR ay bc be ai aq bd qb aa ab;obtain⟨ch,aI⟩:∃ch,ks[j]? = some ch:=⟨_,jJ (by rw[HL.o];exact hj)⟩;have bI:=hd aI;have aT:=ilm aI;have bJ:=hd (Tr ks j ch aI);have bK:Hd (B=60*(1+Ap ks)):=hd (by rw[<-hB,Al]);have bj:=hd (fun(wr:World) (hE:Ext [g] w7 wr)=>Ou Hx (Ah aL.o hE fun y hy=>by cases hy;rw[jA];exact bf) aI)
   have bk:Hd (∀(wr:World),Ext [g] w7 wr->Stm wr base g (n+60*Al ch)->Calls prog 158 #[.pointer (some g),.agg (An ch)] wr (SpxP (fun b=>P b\/w7.heap.size<=b) (2*N+40) (Al ch+40) base g n wr)):=hd fun wr hE hS=>by
    rw[<-Cq];exact HI.o ch aT P _ N base g n wr (fun b hb=>.inl hb) (fun b hb=>.inr (nt hE.size hb)) (fun b hb=>by have:=ap.o b hb;have:=bi.o;have:=hE.size;omega) am.o hN (ExA.ext hE az (aS.o ch aT)) hS
   have bl:=hd (Fe ch.h ch.ks.length);have bL:Hd (An ch=Dd ch.h ch.ks.length):=hd rfl;rw[<-bL.o] at bl;clear aT aI;have bm:Hd (∀y w w',Ext [g] w w'->(sSx P w7.heap.size (2*N+40) (Al ch+40)).V y w->(sSx P w7.heap.size (2*N+40) (Al ch+40)).V y w'):=hd (sSx.stays am.o (by have:=a7.o.stm.lt;omega));have aA:=hd (fun(wr:World) (hE:Ext [g] w7 wr)=>a7.o.blk.ext hE (by rw[jA];have:=a7.o.g0;have:=a7.o.eb0;omega));rw[show An (.mk {h with A:=some q,cap:=cc } ks)=#[.int .i64 h.k,.int .i64 h.op,.int .i64 h.lo,.int .i64 h.hi,.int .i64 h.n,.int .i64 h.m,.int .i64 h.buf,.int .i64 h.at_.base,.slice h.at_.A h.at_.ts.length h.at_.cap,.slice (some q) L cc] from by simp[An,Ex.h,Ex.ks,HL.o]] at aA;go_upto_region 4 with fail
   refine rgO 10 9 (60*Al ch) base g n [(9,sSx P w7.heap.size (2*N+40) (Al ch+40))] (by simp[Bi]) (fun oi h=>by cases h;rfl) (Am.cons bm.o Am.nil) (a7.o.stm.less (by have:=bJ.o;have:=bK.o;omega)) ?_
   simp only[TK]
   repeat(refine dEU (fun wr nr hg hJ=>by(have qb:=(aA.o wr hJ.1).cell;have aa:=(aA.o wr hJ.1).frozen;have ab:=(aA.o wr hJ.1).lt;clear hg);clear hJ;exact CL) ?_;simp only[PT])
   refine Il rfl rfl ⟨.agg (An ch),fun wr nr hg hJ=>?_,?_⟩
   ·exact Dx 41 _ rfl q (j*10) rfl (An ch) (fun i v hv=>bj.o wr hJ.1 i v (by rw[Ey];exact hv)) _ underlying41 rfl bl.o
   simp only[PT];refine Ae5 (sSx P w7.heap.size (2*N+40) (Al ch+40)) rfl rfl rfl ?_ ?_
   ·refine EC fun wr hE hS hf=>?_
    refine(bk.o wr hE hS).mono ?_
    rintro e w' ⟨x,rfl,h1,h2,cb,ce⟩;exact⟨x,rfl,⟨h1,h2⟩,cb,ce⟩
   intro (x:Ex);simp only[PT];dsimp only[sSx];refine Ci (fun w8 r hr hJ hF=>?_)
   have hv:(sSx P w7.heap.size (2*N+40) (Al ch+40)).V x w8:=hF 9;have aM:r 9=false:=by rw[hr 9 (by decide)];rfl
   have aU:=hJ.2;rw[aM] at aU;have ac:=hd (a7.o.draw hJ.1 aU);have HV:=hd hv;have bn:=hd (Ao.ext bh.o hJ.1 az);have bo:=hd (fun e he=>ExA.ext hJ.1 az (aS.o e he));have aB:=hd (Ah aL.o hJ.1 fun y hy=>by have e:q=y:=(by cases hy;rfl);rw[jA];omega);have bM:q<w7.heap.size:=(aL.o.lt q rfl).2;clear hJ aU hF hv hr aM a7 bh aS aL bj bk aA bm;obtain⟨au,bA,bB,aJ⟩:=Ajt Hx (by decide) aB.o HL.o hj x;have aV:=hd au;have bp:=hd bB;have bq:=hd (Fe x.h x.ks.length);have br:=hd (Fo x.h x.ks.length);have bN:Hd (An x=Dd x.h x.ks.length):=hd rfl;rw[<-bN.o] at bq br;have aC:Hd (j*10+(An x).size<=bA.size):=hd aJ;have aj:=hd (Ext.many (S:=[q]) (g:=q) (.inl (by simp)) (exC x) (j*10) w8 (jF _ _));rw[Ey] at aV aj;clear au bB aJ
   have bO:Al (.mk {h with A:=some q,cap:=cc } (ks.set j x))<=Al (.mk h ks)+40:=by
    have:=Tq x ks j ch bI.o;have:=HV.o.2;rw[Al,Al];omega
   have ah:Hd (SpX w Q (2*N+40) base g n (eb+1) eb {h with A:=some q,cap:=cc } (ks.set j x) (w8.setCells q (j*10) (An x).toList)):=hd (by
    have h0:=ac.o.g0;have h1:=ac.o.eb0;have h2:=ac.o.ebr;have h3:=ac.o.bg;have ck:=bi.o;have aW:∀b,P b->Q b/\b≠eb/\b≠eb+1/\b≠g:=fun b hb=>⟨b5.o b hb,by have:=ap.o b hb;omega,by have:=ap.o b hb;omega,fun e=>am.o (e ▸ hb)⟩
    have aX:∀x∈[q],¬P x:=fun x hx hp=>by have:=ap.o x hp;rw[jA.1 hx] at this;omega
    refine⟨ac.o.ext.step aj.o fun y hy=>.inr (by rw[jA.1 hy];exact bH),ac.o.stm.ext aj.o (by rw[jA];omega) (fun y hy=>by rw[jA.1 hy];omega),ac.o.res.ext aj.o (by rw[jA];omega),?_,?_,h1,h2,h0,h3⟩
    ·have e:An (.mk {h with A:=some q,cap:=cc } (ks.set j x))=An (.mk {h with A:=some q,cap:=cc } ks):=by simp[An,Ex.h,Ex.ks]
     rw[e];exact ac.o.blk.ext aj.o (by rw[jA];omega)
    ·have hO:(w8.setCells q (j*10) (An x).toList).ownsRow wc.heap.size 41 10 (.slice (some q) L cc) (ks.set j x).length ((ks.set j x).flatMap exC):=by rw[List.length_set,HL.o];exact aV.o
     refine .mk _ _ (Ao.mono (Ao.ext bn.o aj.o aX) (fun b _ hb=>aW b hb) (by omega)) (Ao.own (P:=fun b=>Q b/\b≠eb/\b≠eb+1/\b≠g) (N:=2*N+40) Hx hO (by rw[List.length_set,HL.o];omega) (by decide) (fun q' hq' _ _=>by cases hq';exact⟨HQ.o q (by omega),by omega,by omega,by omega⟩)).2 fun e he=>?_
     rcases List.mem_or_eq_of_mem_set he with he|rfl
     ·exact ExA.mono (fun b _ hb=>aW b hb) (by omega) (ExA.ext aj.o aX (bo.o e he))
     ·refine ExA.mono (fun b _ hb=>?_) (jD _) (ExA.ext aj.o (fun y hy hh=>?_) HV.o.1)
      ·rcases hb with hb|hb
       ·exact aW b hb
       ·exact⟨HQ.o b (by omega),by omega,by omega,by omega⟩
      ·rw[jA.1 hy] at hh;rcases hh with hh|hh
       ·exact aX q (by simp) hh
       ·omega)
   clear aV aj bn bo;have bP:exV x=.agg (An x):=Cq x;rw[bP];generalize An x=xe at *;have cl:q<w8.heap.size:=(aB.o.lt q rfl).2;go_upto_region 5 with(refine Le rfl (w8.setCells q (j*10) xe.toList) (Er rfl _ w8 q (j*10) xe bA 41 rfl rfl bp.o aC.o bq.o br.o) ?_)
   generalize World.setCells w8 _ _ _=w9 at *;clear ac bp aB;have hp:=bO;have aY:=ah;clear ah;generalize EH.mk h.k h.op h.lo h.hi h.n h.m h.buf h.at_ (some q) cc=hF' at *;generalize ks.set j x=kF' at *;have ah:=aY;have ak:=hd (Fe hF' kF'.length);have aZ:=hd (Fo hF' kF'.length);have aC:=hd (Pn hF' kF'.length);have aD:Hd (Blk w9 eb 41 (Dd hF' kF'.length)):=hd ah.o.blk;have b0:=hd ah.o.res;have aN:Hd (exV (.mk hF' kF')=.agg (Dd hF' kF'.length)):=hd (Cq _);generalize Dd hF' kF'.length=xa at *;have ax:=ah.o.res.lt
   go_wp2_with (first
    | refine Ac rfl 41 _ rfl eb 0 rfl xa aD.o.wide _ underlying41 rfl ak.o ?_
    | (
      refine Bc rfl 41 _ _ rfl (eb+1) xa zEx 41 rfl rfl b0.o ak.o aC.o aZ.o ?_
      intro wf hBF hEF;have bQ:=hd hBF;have b1:=hd hEF;clear hBF hEF))
   refine bodyPost_ret (results_cell_row rfl _ _ (eb+1) 41 _ (0,0) _ rfl bQ.o underlying41 rfl ak.o) rfl ?_
   rw[<-aN.o];have h1:=ah.o.g0;have h2:=ah.o.eb0;have h3:=ah.o.bg;exact⟨.mk hF' kF',rfl,ExA.mono (fun b _ hb=>hb.1) (jD _) (ExA.ext b1.o (fun x hx hp=>hp.2.2.1 (jA.1 hx)) ah.o.kid),hp,ah.o.ext.step b1.o (fun x hx=>.inr (by rw[jA.1 hx];omega)),ah.o.stm.ext b1.o (by rw[jA];omega) (fun x hx=>by rw[jA.1 hx];omega)⟩
  | false=>
   go_upto_block 0 with fail
   refine(Cb base g (n+B-2) 9 wc (ae.o.stm.less (by omega)) (by omega)).mono ?_
   rintro e w4 ⟨r,rfl,hr,hE,hS⟩;have a2:=hd (ae.o.draw hE hS);have aE:=hd (ExA.ext hE (fun x hx hp=>am.o (jA.1 hx ▸ hp)) aq.o);have aM:r=0\/r=1\/r=2\/r=3\/r=4\/r=5\/r=6\/r=7\/r=8:=by omega
   clear hE hS hr ae aq;go_upto_block 0 with fail
   go_cut [] (fun wx=>∃(h':EH) (a6:List Ex),Al (.mk h' a6)<=Al (.mk h ks)+40/\Hd (SpX w Q (2*N+40) base g n (eb+1) eb h' a6 wx))
   case first=>
    have qb:=a2.o.blk.cell;have aa:=a2.o.blk.frozen;have ab:=a2.o.blk.lt;have aF:g<w4.heap.size:=a2.o.stm.lt;rw[ag.o] at qb;rcases aM with rfl|rfl|rfl|rfl|rfl|rfl|rfl|rfl|rfl
    ·
     go_wp2_with fail
     refine(Ce base g (n+40) 0 6 w4 (a2.o.stm.less (by omega)) (by omega) (by omega)).mono ?_
     rintro e w6 ⟨y,rfl,-,hE,hS⟩;have a1:=hd (a2.o.draw hE hS);clear qb aa ab hE hS;have qb:=a1.o.blk.cell;have aa:=a1.o.blk.frozen;have ab:=a1.o.blk.lt;rw[ag.o] at qb;have a7:=hd (a1.o.plain 0 (.int .i64 y) {h with k:=y } rfl rfl rfl);go_wp2_with fail
     go_meet
     exact⟨_,_,by simp[Al],hd (a7.o.less (by omega))⟩
    ·
     go_wp2_with fail
     refine(Ce base g (n+40) 3 16 w4 (a2.o.stm.less (by omega)) (by omega) (by omega)).mono ?_
     rintro e w6 ⟨y,rfl,-,hE,hS⟩;have a1:=hd (a2.o.draw hE hS);clear qb aa ab hE hS;have qb:=a1.o.blk.cell;have aa:=a1.o.blk.frozen;have ab:=a1.o.blk.lt;rw[ag.o] at qb;have a7:=hd (a1.o.plain 1 (.int .i64 y) {h with op:=y } rfl rfl rfl);go_wp2_with fail
     go_meet
     exact⟨_,_,by simp[Al],hd (a7.o.less (by omega))⟩
    ·
     have HN:=hd (jK w4 3 (Cj [0,5,2147483648,-1]));have ad:Ext [] w4 (w4.alloc (.cells (Cj [0,5,2147483648,-1]) 3)):=(jF _ _).alloc _;have a8:=hd (a2.o.draw ad.nil (a2.o.stm.ext ad (by simp) (by simp)));clear ad;simp only[Cj,List.map_cons,List.map_nil] at HN a8;go_wp2_with fail
     refine(Cc base g (n+40) w4.heap.size 4 3 [0,5,2147483648,-1] _ (a8.o.stm.less (by omega)) HN.o (by omega) (by decide)).mono ?_
     rintro e w6 ⟨y,rfl,-,hE,hS⟩;have a1:=hd (a8.o.draw hE hS);clear qb aa ab hE hS HN a8 aF a2 aE;have aF:g<w6.heap.size:=a1.o.stm.lt;have HN:=hd (jK w6 3 (Cj [0,3,2147483648]));have ad:Ext [] w6 (w6.alloc (.cells (Cj [0,3,2147483648]) 3)):=(jF _ _).alloc _;have a7:=hd (a1.o.draw ad.nil (a1.o.stm.ext ad (by simp) (by simp)));clear ad;simp only[Cj,List.map_cons,List.map_nil] at HN a7;go_wp2_with fail
     refine(Cc base g (n+30) w6.heap.size 3 3 [0,3,2147483648] _ (a7.o.stm.less (by omega)) HN.o (by omega) (by decide)).mono ?_
     rintro e w8 ⟨z,rfl,-,hE,hS⟩;have ac:=hd (a7.o.draw hE hS);clear hE hS HN a7 a1 aF;have qb:=ac.o.blk.cell;have aa:=ac.o.blk.frozen;have ab:=ac.o.blk.lt;rw[ag.o] at qb;have af:=hd ((ac.o.plain 2 (.int .i64 y) {h with lo:=y } rfl rfl rfl).plain 3 (.int .i64 z) {h with lo:=y,hi:=z } rfl rfl rfl);go_wp2_with fail
     go_meet
     exact⟨_,_,by simp[Al],hd (af.o.less (by omega))⟩
    ·
     have HN:=hd (jK w4 3 (Cj [0,31,32,2147483648,100001,-1]));have ad:Ext [] w4 (w4.alloc (.cells (Cj [0,31,32,2147483648,100001,-1]) 3)):=(jF _ _).alloc _;have a8:=hd (a2.o.draw ad.nil (a2.o.stm.ext ad (by simp) (by simp)));clear ad;simp only[Cj,List.map_cons,List.map_nil] at HN a8;go_wp2_with fail
     refine(Cc base g (n+40) w4.heap.size 6 3 [0,31,32,2147483648,100001,-1] _ (a8.o.stm.less (by omega)) HN.o (by omega) (by decide)).mono ?_
     rintro e w6 ⟨y,rfl,-,hE,hS⟩;have a1:=hd (a8.o.draw hE hS);clear qb aa ab hE hS;have qb:=a1.o.blk.cell;have aa:=a1.o.blk.frozen;have ab:=a1.o.blk.lt;rw[ag.o] at qb;have a7:=hd (a1.o.plain 4 (.int .i64 y) {h with n:=y } rfl rfl rfl);go_wp2_with fail
     go_meet
     exact⟨_,_,by simp[Al],hd (a7.o.less (by omega))⟩
    ·
     have HN:=hd (jK w4 3 (Cj [0,1,262145,20]));have ad:Ext [] w4 (w4.alloc (.cells (Cj [0,1,262145,20]) 3)):=(jF _ _).alloc _;have a8:=hd (a2.o.draw ad.nil (a2.o.stm.ext ad (by simp) (by simp)));clear ad;simp only[Cj,List.map_cons,List.map_nil] at HN a8;go_wp2_with fail
     refine(Cc base g (n+40) w4.heap.size 4 3 [0,1,262145,20] _ (a8.o.stm.less (by omega)) HN.o (by omega) (by decide)).mono ?_
     rintro e w6 ⟨y,rfl,-,hE,hS⟩;have a1:=hd (a8.o.draw hE hS);clear qb aa ab hE hS;have qb:=a1.o.blk.cell;have aa:=a1.o.blk.frozen;have ab:=a1.o.blk.lt;rw[ag.o] at qb;have a7:=hd (a1.o.plain 5 (.int .i64 y) {h with m:=y } rfl rfl rfl);go_wp2_with fail
     go_meet
     exact⟨_,_,by simp[Al],hd (a7.o.less (by omega))⟩
    ·
     go_wp2_with fail
     refine(Ce base g (n+40) (-1) 6 w4 (a2.o.stm.less (by omega)) (by omega) (by omega)).mono ?_
     rintro e w6 ⟨y,rfl,-,hE,hS⟩;have a1:=hd (a2.o.draw hE hS);clear qb aa ab hE hS;have qb:=a1.o.blk.cell;have aa:=a1.o.blk.frozen;have ab:=a1.o.blk.lt;rw[ag.o] at qb;have a7:=hd (a1.o.plain 6 (.int .i64 y) {h with buf:=y } rfl rfl rfl);go_wp2_with fail
     go_meet
     exact⟨_,_,by simp[Al],hd (a7.o.less (by omega))⟩
    ·
     obtain⟨-,aH,-⟩:=aE.o.all;have ax:=a2.o.res.lt;have bb:=a2.o.g0;have bR:=a2.o.eb0;have bt:Hd (L<=1000):=hd (by omega);have HC:=hd (Zv P N h.A L h.cap ks w4 aH HL.o (by omega));clear aH;go_wp2_with fail
     refine HC.o.mono ?_
     rintro e w5 ⟨v,rfl,ho,hE⟩;obtain⟨cA,cc,rfl,-,-⟩:=Bg ho;generalize cf:w4.heap.size=H4 at *;have ai:=hd (hE.alloc (.cells (An Jl) 41));have ay:=hd (Ah ho ((jF [] w5).alloc (.cells (An Jl) 41)) (by simp));have aK:=hd (jK w5 41 (An Jl));have bS:Hd (H4<=(w5.alloc (.cells (An Jl) 41)).heap.size):=hd (by have:=ai.o.size;omega);have a1:=hd (a2.o.draw ai.o.nil (a2.o.stm.ext ai.o (by simp) (by simp)));clear ho hE qb aa ab HC aF;obtain⟨i0,c6,c7,c9,ca⟩:=Xg
     go_wp2_with (first
      | refine Br rfl (.agg (An Jl)) w5 (Hf 41 _ rfl _ Ab6) ?_
      | (
        refine Br rfl (.slice (some w5.heap.size) 1 1) (w5.alloc (.cells (An Jl) 41)) ?rr ?_
        case rr=>
         refine As rfl _ w5 _ _ (exV Jl) ?_ ?_
         ·rfl
         ·exact Mw w5 Jl)
      | (
        refine wpList_append_lies _ rfl _ _ 39 rfl H4 41 i0 _ 10 112 underlying39 c6 c7 c9 ca rfl (by decide) (.slice cA L cc) L (ks.flatMap exC) rfl ay.o ⟨w5.heap.size,0,none⟩ 1 1 (exC Jl) rfl rfl ?c1 (Xh _) (by omega) ?c3 ?c4 bS.o _ rfl ?_
        case c1=>intro j v hj;rw[Addr.add_mk,Nat.zero_add,aK.o.cell,<-Array.getElem?_toList,<-Ey];exact hj
        case c3=>have:=bt.o;unfold maxLen;omega
        case c4=>have:=bt.o;omega
        intro g8 c8 w8 ho8 hg8 hi8 ha8;have aB:=hd ho8;have al:Hd (Ext [] w4 w8):=hd (ai.o.step ((jF _ _).grown hg8 fun q hq=>.inl (jC.2 hq)) fun q hq=>.inr (by rw[cf];exact Ad ay.o q (jC.1 hq)));have ac:=hd (a2.o.draw al.o.nil (a2.o.stm.ext al.o (by simp) (by simp)));have qb:=ac.o.blk.cell;have aa:=ac.o.blk.frozen;have ab:=ac.o.blk.lt;rw[ag.o] at qb;clear ho8 hg8 hi8 ha8))
     have bT:(ks ++ [Jl]).flatMap exC=ks.flatMap exC ++ exC Jl:=by rw[List.flatMap_append];simp
     have aG:(ks ++ [Jl]).length=L+1:=by rw[jG,jS,HL.o]
     have au:w8.ownsRow H4 41 10 (.slice (some g8) (L+1) c8) (ks ++ [Jl]).length ((ks ++ [Jl]).flatMap exC):=by
      rw[bT,aG];exact aB.o
     have bU:Ao (fun b=>Q b/\b≠eb/\b≠eb+1/\b≠g) (2*N+40) w8 (some g8) 10 exC (ks ++ [Jl]):=
      (Ao.own (P:=fun b=>Q b/\b≠eb/\b≠eb+1/\b≠g) (N:=2*N+40) Hx au (by rw[aG];omega) (by decide) (fun q _ h1 _=>⟨HQ.o q (by omega),by omega,by omega,by omega⟩)).2
     have af:=hd (ac.o.setH 9 (.slice (some g8) (L+1) c8) {h with A:=some g8,cap:=c8 } (ks ++ [Jl]) (by simp[An,Ex.h,Ex.ks,HL.o]) (by
      obtain⟨k1,-,k3⟩:=ac.o.kid.all;refine .mk _ _ k1 bU fun e he=>?_
      rcases jN.1 he with he|he
      ·exact k3 e he
      ·rw[jA.1 he];exact Akx _ _ _))
     have e1:Al Jl=1:=by simp[Jl,Al,Ap]
     have bV:Al (.mk {h with A:=some g8,cap:=c8 } (ks ++ [Jl]))<=Al (.mk h ks)+40:=by rw[Al,Al,Qh,e1];omega
     go_meet
     exact⟨_,_,bV,hd (af.o.less (by omega))⟩
    ·
     have HN:=hd (jK w4 3 (Cj [5,6,7,33]));have ad:Ext [] w4 (w4.alloc (.cells (Cj [5,6,7,33]) 3)):=(jF _ _).alloc _;have a8:=hd (a2.o.draw ad.nil (a2.o.stm.ext ad (by simp) (by simp)));clear ad;simp only[Cj,List.map_cons,List.map_nil] at HN a8;go_wp2_with fail
     refine(Cc base g (n+40) w4.heap.size 4 3 [5,6,7,33] _ (a8.o.stm.less (by omega)) HN.o (by omega) (by decide)).mono ?_
     rintro e w6 ⟨y,rfl,hy,hE,hS⟩;have a1:=hd (a8.o.draw hE hS);have bW:0<=y/\y<=33:=by simp at hy;omega
     obtain⟨cnt,rfl⟩:∃k:Nat,y=k:=⟨y.toNat,by omega⟩;clear hE hS HN a8 aF a2 aE hy qb aa ab;go_wp2_with fail
     go_loopw [93] (fun i wr=>∃(k:Nat) (h':EH) (a6:List Ex),i=.int .i64 k/\k<=cnt/\Al (.mk h' a6)<=Al (.mk h ks)+k/\Hd (SpX w Q (2*N+40) base g n (eb+1) eb h' a6 wr)) (fun i _=>(cnt-intOf i).toNat)
     case atStart=>exact⟨0,h,ks,rfl,jQ _,by omega,hd (a1.o.less (by omega))⟩
     case round=>
      obtain⟨k,h',a6,rfl,hk,hp,an⟩:=hrel;by_cases co:k<cnt
      ·have b2:(k:Int)<cnt:=by omega
       have ak:=hd (Fe h' a6.length);have aD:=hd an.o.blk;have aN:=hd (Cq (.mk h' a6));have bX:Hd ((prog.info? 41).map (·.size)=some (An (Ae6 wr.heap.size (.mk h' a6))).size):=hd (Fe _ 1);have bY:Hd ((An (Ae6 wr.heap.size (.mk h' a6))).all (·.oneCell')=true):=hd (Fo _ 1);have bZ:=hd (jK wr 41 (An (.mk h' a6)));have b3:Hd (Ext [] wr (wr.alloc (.cells (An (.mk h' a6)) 41))):=hd ((jF _ _).alloc _);have c0:=hd (an.o.draw b3.o.nil (an.o.stm.ext b3.o (by simp) (by simp)));have bu:=hd (And.intro an.o.res.lt (And.intro an.o.eb0 an.o.ebr))
       go_wp2_with (first
        | refine Ac rfl 41 _ rfl eb 0 rfl (An (.mk h' a6)) aD.o.wide _ underlying41 rfl ak.o ?_
        | (
          refine Br rfl (.slice (some wr.heap.size) 1 1) (wr.alloc (.cells (An (.mk h' a6)) 41)) ?rr ?_
          case rr=>
           refine As rfl _ wr _ _ (exV (.mk h' a6)) ?_ ?_
           ·rfl
           ·exact Mw wr (.mk h' a6))
        | refine Br rfl (.agg (An (Ae6 wr.heap.size (.mk h' a6)))) _ (Hf 41 _ rfl _ (Ab7 wr.heap.size (.mk h' a6))) ?_
        | (
          refine Bc rfl 41 _ _ rfl eb (An (Ae6 wr.heap.size (.mk h' a6))) (An (.mk h' a6)) 41 rfl rfl c0.o.blk bX.o rfl bY.o ?_
          intro w8 hB8 hE8;have b4:=hd hB8;have al:=hd hE8;clear hB8 hE8))
       have af:=hd (SpX.nest an.o (b:=wr.heap.size) (by omega) (fun b hb=>HQ.o b (by have:=bu.o;omega)) (jD _) (b3.o.nil.trans al.o) b4.o (bZ.o.ext al.o (by have:=bu.o;rw[jA];omega)));go_roundw
       case rel=>exact⟨k+1,_,_,by go_num,by omega,by simp only[Al,Ap] at hp⊢;omega,af⟩
       case measure=>simp[intOf];omega
      ·have b2:¬(k:Int)<cnt:=by omega
       go_wp2_with fail
       go_meet
       exact⟨_,_,by omega,an⟩
    ·
     have ha:=aE.o.all.1;have ax:=a2.o.res.lt;have bb:=a2.o.g0;have bR:=a2.o.eb0;have HC:=hd (Zx P N base g (n+10) h.at_ w4 (a2.o.stm.less (by omega)) ha (by omega));clear ha;unfold afV at HC;go_wp2_with fail
     refine HC.o.mono ?_
     rintro e w6 ⟨a',rfl,bC,hE,hS⟩;have a1:=hd (a2.o.draw hE hS);have c2:Hd (AfA (fun b=>Q b/\b≠eb/\b≠eb+1/\b≠g) (2*N+40) w6 a'):=hd (Ao.mono bC (fun b _ hb=>⟨HQ.o b (by omega),by omega,by omega,by omega⟩) (by omega));clear qb aa ab hE hS bC HC ax;have qb:=a1.o.blk.cell;have aa:=a1.o.blk.frozen;have ab:=a1.o.blk.lt;rw[ag.o] at qb
     have a7:=hd (a1.o.setH 7 (.int .i64 a'.base) {h with at_:={h.at_ with base:=a'.base } } ks rfl (by
      obtain⟨k1,k2,k3⟩:=a1.o.kid.all;exact .mk _ _ k1 k2 k3))
     have ac:=hd (a7.o.setH 8 (.slice a'.A a'.ts.length a'.cap) {h with at_:=a' } ks rfl (by
      obtain⟨k1,k2,k3⟩:=a7.o.kid.all;exact .mk _ _ (Ao.ext c2.o (jL (S:=[eb]) (.inl (by simp)) (jF _ _)) (fun x hx hp=>hp.2.1 (jA.1 hx))) k2 k3))
     go_wp2_with fail
     go_meet
     exact⟨_,_,by simp[Al],hd (ac.o.less (by omega))⟩
   case rest=>
    obtain⟨h',a6,hp,af⟩:=hcut;clear a2 aE;have ak:=hd (Fe h' a6.length);have aZ:=hd (Fo h' a6.length);have aC:=hd (Pn h' a6.length);have aD:Hd (Blk wc eb 41 (Dd h' a6.length)):=hd af.o.blk;have b0:=hd af.o.res;have aN:Hd (exV (.mk h' a6)=.agg (Dd h' a6.length)):=hd (Cq _);generalize Dd h' a6.length=xa at *;have ax:=af.o.res.lt
    go_wp2_with (first
     | refine Ac rfl 41 _ rfl eb 0 rfl xa aD.o.wide _ underlying41 rfl ak.o ?_
     | (
       refine Bc rfl 41 _ _ rfl (eb+1) xa zEx 41 rfl rfl b0.o ak.o aC.o aZ.o ?_
       intro w8 hB8 hE8;have b4:=hd hB8;have al:=hd hE8;clear hB8 hE8))
    refine bodyPost_ret (results_cell_row rfl _ _ (eb+1) 41 _ (0,0) _ rfl b4.o underlying41 rfl ak.o) rfl ?_
    rw[<-aN.o];have h1:=af.o.g0;have h2:=af.o.eb0;have h3:=af.o.bg;exact⟨.mk h' a6,rfl,ExA.mono (fun b _ hb=>hb.1) (jD _) (ExA.ext al.o (fun x hx hp=>hp.2.2.1 (jA.1 hx)) af.o.kid),hp,af.o.ext.step al.o (fun x hx=>.inr (by rw[jA.1 hx];omega)),af.o.stm.ext al.o (by rw[jA];omega) (fun x hx=>by rw[jA.1 hx];omega)⟩
theorem Ajv:∀e,Akw e:=Gs Ah8
end Go.Proofs.YtfppibmloloakaaGreatDoor
