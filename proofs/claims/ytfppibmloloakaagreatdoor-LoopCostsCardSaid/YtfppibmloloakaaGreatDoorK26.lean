import Derived.Test.YtfppibmloloakaaGreatDoorK25
namespace Go.Proofs.YtfppibmloloakaaGreatDoor
open Go.RowKit Go.Proofs.Tryz
set_option linter.all false
set_option maxHeartbeats 64000000
theorem Abf:∀args w,(callFunc 109 args).run prog w=.ok (.enter 109 args) w:=by
 obtain⟨c,hc⟩:∃c,Tryz.f109.body=some c:=⟨_,rfl⟩;exact fun args w=>enters_of func109 (by kernel_rfl) hc args w
set_option maxRecDepth 100000 in
theorem Aeg (a:Af)(vb mb:Nat)(env:Env)(w:World)(ha:Jn w a)(hg:AfG a)(hm:Bw w mb env)(he:∀p∈env,Bdd p.2)(hv:Blk w vb 85 #[.map (some mb)]) :
  Calls prog 109 (#[afV a] ++ #[.pointer (some vb)]) w (Fk (!decide (0<=evA env a)) w):=by
 have a2:=hd (fun W (hW:Ext [] w W)=>Qu a mb env W (ha.keep hW) hg (hm.ext hW jH) he);have qv:=hv.cell;have a7:=hv.lt;clear ha hg hm he hv;generalize evA env a=E at *;obtain⟨y0,y1,y2,y3⟩:=a;dsimp only[afV] at *;generalize y3.length=m at *;have a1:=hd ((jF [] w).alloc (.cells #[y0,.slice y1 m y2] 38));go_enter func109,ntmps109
 go_wp2_with fail
 refine(a2.o _ a1.o).mono ?_
 rintro r w1 ⟨rfl,hE⟩;have a6:=hd (a1.o.trans hE);clear hE;go_wp2_with fail
 go_ret
 exact⟨Aa (by by_cases h:E<0<;>simp[h]<;>omega),a6.o⟩
def RcP (mb:Nat)(env:Env)(v:Nat)(w:World)(e:Ending)(w':World):Prop:=e=.returned (.int .i64 v)/\Ext [mb] w w'/\Bw w' mb env
def RcC (l:List St):Prop:=∀(nb mb ln:Nat) (env:Env) (names:List ByteArray) (A:Option Addr) (cap:Nat) (w0 w:World),(Na env names\/∀s∈l,s.h.k=3)->Ak w0 A 21 stC l->(∀s∈l,Gc w0 s)->(∀s∈l,Fd nb names s)->(∀s∈l,Lj s)->
 w0.heap.size<=mb->Ext [] w0 w->Bw w mb env->1<=ln->ln<=16->Av env l<=2500000->
  Calls prog 52 #[.slice A l.length cap,.map (some mb),ln] w (RcP mb env (Ca ln env l) w)
def JM (mb:Nat)(env:Env)(w0:World)(_:Nat)(w:World):Prop:=Ext [mb] w0 w/\Bw w mb env
attribute [local irreducible] Bj
set_option maxRecDepth 100000 in
theorem Sw (l:List St)(ih:∀s∈l,RcC s.body):RcC l:=by
 intro nb mb ln env names A cap w0 w hG hR hS hF hpa hmb hE0 hM hln hln2 hrun;have HI:=hd ih;have HG:=hd hG;have HR:=hd hR;have bP:=hd hS;have bQ:=hd hF;have bR:=hd hpa;have bS:=hd hE0;have HM:=hd hM;have bT:=Qw ln nb hln (env:=env) hF hpa;have bU:=hd (fun j=>@Acx ln env l j);have bV:=hd (fun j=>@Oc env l j);have au:l.length<=1000000:=hR.1;have cx:=hM.lt;clear ih hG hR hS hF hpa hE0 hM;generalize hn:l.length=m at *;have HN:=hd hn;clear hn;generalize bL:Ca ln env l=CT at *;have bW:=hd bL;have bX:CT<=10000002500000:=by omega
 clear bL bT;go_enter func52,ntmps52
 go_upto_region 1 with fail
 have b1:=hd ((jF [] w).alloc (.cells #[.map (some mb)] 85));have bh:=hd (jK w 85 #[.map (some mb)]);have bi:=hd (HM.o.ext b1.o (by simp));generalize World.alloc w _=w1 at *;generalize cI:w.heap.size=vb at *;have bY:Hd (mb≠vb):=hd (bi.o.apart bh.o);go_wp2_with fail
 go_loopw [7,15] (fun z i wr=>∃k:Nat,i=.int .i64 k/\z=.int .i64 (Ca ln env (l.take k):Nat)/\k<=m/\Hd (Ext [mb] w1 wr)/\Hd (Bw wr mb env)) (fun _ i _=>(m-intOf i).toNat)
 case atStart=>exact⟨0,rfl,by simp[Ca],jQ _,hd (jF _ _),bi⟩
 case round=>
  obtain⟨k,rfl,rfl,hk,HE,bE⟩:=hrel;rename World=>wq
  have ai:Hd (∀W,Ext [mb] w1 W->Ext [] w0 W):=hd fun W hW=>(bS.o.trans b1.o).step hW fun x hx=>.inr (by rw[jA.1 hx];exact hmb)
  have aD:Hd (∀W,Ext [mb] w1 W->Blk W vb 85 #[.map (some mb)]):=hd fun W hW=>bh.o.ext hW (by rw[jA];exact Ne.symm bY.o)
  by_cases cw:k<m
  ·have bj:(k:Int)<(m:Int):=by omega
   obtain⟨bb,x,rfl,hx,hc⟩:=(HR.o.keep (ai.o wq HE.o)).at (i:=k) (by rw[HN.o];exact cw);obtain⟨h,bs⟩:=x;have ac:=ilm hx;have aE:=hd (HI.o _ ac);have ae:=hd (bP.o _ ac);have bk:=bQ.o _ ac;have b2:=hd (bR.o _ ac);have bZ:=hd (HG.o.imp id fun h3=>h3 _ ac);have bl:=hd (Vg (ln:=ln) (env:=env) hx);have c0:Ca ln env (l.take (k+1))<=CT:=bU.o (k+1);rw[bl.o] at c0;have bm:Av env (l.take (k+1))<=2500000:=nt (bV.o (k+1)) hrun;rw[Dp hx] at bm;have bo:=hd (show Jd env (.mk h bs)<=2500000 by omega);have aP:=hd bk;clear ac bm bk;generalize hP:Ca ln env (l.take k)=P at *;clear hP;generalize hY:Pi ln env (.mk h bs)=Y at *;have HY:=hd hY;clear hY;have HW:=hd (fun j v hv=>hc j v hv:∀(j:Nat) (v:Value),(Ai h bs.length h.val.h h.val.ks.length).toList[j]? = some v->wq.cell? ⟨bb,k*21+j,none⟩=some v);have ah:=hd (jK wq 43 (Ai h bs.length h.val.h h.val.ks.length));have aj:=hd ((jF [] wq).alloc (.cells (Ai h bs.length h.val.h h.val.ks.length) 43));obtain⟨a0,a1,a2,a3,a4,a5,a6,a7,-⟩:=Cf h bs.length h.val.h h.val.ks.length;have aQ:=hd (show(prog.info? 43).map (·.size)=some (Ai h bs.length h.val.h h.val.ks.length).size from Dv);have bp:=hd (show zSt.size=(Ai h bs.length h.val.h h.val.ks.length).size from rfl);have bq:=hd (Cz h bs.length h.val.h h.val.ks.length)
   have c1:Hd (∀(j:Nat) (v:Value),(An h.val).toList[j]? = some v->(Ai h bs.length h.val.h h.val.ks.length)[11+j]? = some v):=hd fun j v hv=>by
    rw[<-Array.getElem?_toList,show(Ai h bs.length h.val.h h.val.ks.length).toList=[.int .i64 h.k,.string h.var,.int .i64 h.lo,.int .i64 h.hi,.int .i64 h.step,.bool h.vec,.slice h.cA h.conds.length h.cc,.slice h.A bs.length h.cap,.int .i64 h.buf,.int .i64 h.at_.base,.slice h.at_.A h.at_.ts.length h.at_.cap] ++ (An h.val).toList from rfl,jM (by simp)];simpa using hv
   have ak:=hd (fun(h1 : -100000<=h.lo/\h.lo<=100000) (h2 : -100000<=h.hi/\h.hi<=100000) (h3:1<=h.step/\h.step<=100000) W=>Zb h bs.length W h1 h2 h3);unfold Ez at ak;clear hc;generalize Ai h bs.length h.val.h h.val.ks.length=arr at *;generalize bM:bs.length=bn at *;have aw:=hd bM;clear bM;go_upto_block 1 with fail
   go_cut [7] (fun z wx=>z=.int .i64 (P+Y:Nat)/\Hd (Ext [mb] wq wx)/\Hd (Bw wx mb env))
   case first=>
    go_upto_block 2 with(first
     | refine Ac rfl 43 _ rfl bb (k*21) rfl arr HW.o _ underlying43 rfl aQ.o ?_
     | refine Ax rfl rfl 43 _ _ rfl rfl zSt (Ge _) arr rfl rfl aQ.o bp.o bq.o ?_)
    have aF:=hd (bE.o.ext aj.o (by simp));have aG:Hd (Ext [mb] w1 (wq.alloc (.cells arr 43))):=hd (HE.o.trans aj.o.nil);generalize World.alloc wq _=w2 at *;generalize cJ:wq.heap.size=sb at *;have c2:Hd (mb≠sb):=hd (aF.o.apart ah.o);have aR:Hd (∀W,Ext [mb] w2 W->Blk W sb 43 arr):=hd fun W hW=>ah.o.ext hW (by rw[jA];exact Ne.symm c2.o)
    have af:Hd (∀W,Ext [mb] w2 W->Ext [mb] w1 W):=hd fun W hW=>aG.o.trans hW
    have aH:Hd (∀W,Ext [mb] w2 W->Ext [mb] wq W):=hd fun W hW=>aj.o.nil.trans hW
    clear HE HW bp bq;by_cases aq:h.k=3
    ·skip
     have e3:(h.k==3)=true:=by simpa using aq
     have c3:Al h.val<=1000000:=by have:=b2.o;cases this;assumption
     have br:Bs names nb h.val=0:=by
      have:=aP.o;cases this with
      | loop _ _ _ h1=>omega
      | when _ _ _ h1=>omega
      | store _ _ _ _ _ _ hx9=>exact hx9
     have b3:=hd (Abd names nb h.val br c3 w2 (ae.o.all.2.2.2.1.keep (ai.o w2 aG.o)));have cy:=Ph h.val;have ad:=hd (HY.o.symm.trans (He aq));have c4:Hd (∀(j:Nat) (v:Value),(An h.val).toList[j]? = some v->w2.cell? ⟨sb,11+j,none⟩=some v):=hd fun j v hv=>by rw[ah.o.cell];exact c1.o j v hv
     rw[Cq] at b3;generalize prE h.val=PV at *;have aI:=ad.o;clear aq br;go_wp2_with (refine Ac rfl 41 _ rfl sb 11 rfl (An h.val) c4.o _ underlying41 rfl Ch ?_)
     refine b3.o.mono ?_
     rintro e w3 ⟨rfl,hE⟩;have a8:=hd hE;clear hE b3;go_wp2_with fail
     go_meet
     exact⟨by rw[ad.o];first|rfl|(congr 1;push_cast;first|done|omega),hd (aH.o _ a8.o.nil),hd (aF.o.ext a8.o (by simp))⟩
    ·have e3:(h.k==3)=false:=by simpa using aq
     have ax:Hd (Na env names):=hd (bZ.o.resolve_right aq);by_cases aC:h.k=2
     ·skip
      have e2:(h.k==2)=true:=by simpa using aC
      have aS:(∀a∈h.conds,Cn names a=0)/\h.conds.length<=4/\∀s∈bs,Fd nb names s:=by
       have:=aP.o;cases this with
       | loop _ _ _ h1=>omega
       | when _ _ _ _ _ h1 h2 h3=>exact⟨h1,h2.2,h3⟩
       | store _ _ h1=>omega
      have al:=hd (fun W (hE:Ext [mb] w2 W) (hM:Bw W mb env)=>Afi h.cA h.conds.length h.cc h.conds 109 #[.pointer (some vb)] (fun a=>!decide (0<=evA env a)) W (ae.o.all.1.keep (ai.o W (af.o W hE))) rfl ⟨Abf,fun i x hx w' hw'=>Aeg x vb mb env w' ((ae.o.all.2.1 x (ilm hx)).keep ((ai.o W (af.o W hE)).trans hw')) (AfG.of (aS.1 x (ilm hx)) ax.o.size) (Bw.ext hM hw' jH) ax.o.bdd ((aD.o W (af.o W hE)).ext hw' (by simp))⟩);have c5:=hd (show(h.conds.any fun a=>!decide (0<=evA env a)) = !Ec env h from Vf env h.conds);rw[c5.o] at al;have ad:=hd (HY.o.symm.trans (Pj aC));have aT:=hd (Gx (env:=env) (b:=bs) aC);have cz:=aS.2.1;have c6:=hd aS.2.2;have aJ:∀s∈bs,Lj s:=by have:=b2.o;cases this;assumption
      have aK:=hd aJ;clear aS aJ;generalize h.conds.length=cn at *;generalize h.k=hk at *;clear aC aq;have q6:w2.cell? ⟨sb,6,none⟩=some (.slice h.cA cn h.cc):=by rw[ah.o.cell];exact a6
      have ab:=ah.o.lt;go_wp2_with fail
      refine(al.o w2 (jF _ _) aF.o).mono ?_
      rintro e w3 ⟨rfl,hE⟩;have a8:Hd (Ext [mb] w2 w3):=hd hE.nil;have aL:=hd (aF.o.ext hE (by simp));have ay:=hd (aR.o w3 a8.o);have b4:=hd (aD.o w3 (af.o w3 a8.o));clear hE al q6 ab;have q7:w3.cell? ⟨sb,7,none⟩=some (.slice h.A bn h.cap):=by rw[ay.o.cell];exact a7
      have ab:=ay.o.lt;have qv:=b4.o.cell;have am:=b4.o.lt;cases hh:Ec env h
      ·have aU:=hd hh;clear hh;have aI:Y=cn:=by rw[ad.o,aU.o];simp
       go_wp2_with fail
       go_meet
       exact⟨by rw[aI];first|rfl|(congr 1;push_cast;first|done|omega),hd (aH.o _ a8.o),aL⟩
      ·have aU:=hd hh;clear hh;have aI:Y=cn+Ca ln env bs:=by rw[ad.o,aU.o];simp
       have aM:Av env bs<=2500000:=by have h1:=aT.o;rw[aU.o,ijp rfl] at h1;have:=bo.o;omega
       have HQ:=hd (aE.o nb mb ln env names h.A h.cap w0 w3 (.inl ax.o) ae.o.all.2.2.2.2.2.2.1 ae.o.all.2.2.2.2.2.2.2 c6.o aK.o hmb (ai.o w3 (af.o w3 a8.o)) aL.o hln hln2 aM);simp only[St.body] at HQ;rw[aw.o] at HQ;have bt:=hd aI;generalize Ca ln env bs=CB at *;clear aI aM;have cB:=bt.o;go_wp2_with fail
       refine HQ.o.mono ?_
       rintro e w4 ⟨rfl,aB,bI⟩;have az:=hd aB;have aV:=hd bI;clear aB bI HQ;go_wp2_with fail
       go_meet
       exact⟨by rw[bt.o];first|rfl|(congr 1;push_cast;first|done|omega),hd (aH.o _ (a8.o.trans az.o)),aV⟩
     ·have e2:(h.k==2)=false:=by simpa using aC
      have bu:h.k=1:=by
       have:=aP.o;cases this with
       | loop _ _ _ h1=>exact h1
       | when _ _ _ h1=>omega
       | store _ _ h1=>omega
      have b5:=hd bu
      have aa:Hd (((-100000<=h.lo/\h.lo<=100000)/\(-100000<=h.hi/\h.hi<=100000)/\(1<=h.step/\h.step<=100000))/\names.length<8/\(h.vec=true->∀s∈bs,s.h.k=3)/\Cy h.var=true/\Fy names h.var=false/\∀s∈bs,Fd nb (names ++ [h.var]) s):=hd (by
       have:=aP.o;cases this with
       | loop _ _ _ _ hn hv h0 h1 h2 h3 h4 hs=>exact⟨⟨h1,h2,h3⟩,h0,h4,hn,hv,hs⟩
       | when _ _ _ h1=>omega
       | store _ _ h1=>omega)
      have aJ:∀s∈bs,Lj s:=by have:=b2.o;cases this;assumption
      have aK:=hd aJ;have cC:Ar h<=200000:=Fl aa.o.1.1 aa.o.1.2.1 aa.o.1.2.2;have b6:=hd (ak.o aa.o.1.1 aa.o.1.2.1 aa.o.1.2.2);clear ak aJ;clear bu aC aq;generalize bN:Ar h=mn at *;have aW:=hd bN;clear bN;have q5:w2.cell? ⟨sb,5,none⟩=some (.bool h.vec):=by rw[ah.o.cell];exact a5
      have ab:=ah.o.lt;go_wp2_with (refine Ac rfl 43 _ rfl sb 0 rfl arr ah.o.wide _ underlying43 rfl aQ.o ?_)
      refine(b6.o w2).mono ?_
      rintro e w3 ⟨v,rfl,ho,hE⟩;obtain⟨vA,vc,rfl,-,-⟩:=Bg ho;have a8:Hd (Ext [mb] w2 w3):=hd hE.nil;have aL:=hd (aF.o.ext hE (by simp));have ay:=hd (aR.o w3 a8.o);have b4:=hd (aD.o w3 (af.o w3 a8.o));clear hE ho q5 ab;have q5:w3.cell? ⟨sb,5,none⟩=some (.bool h.vec):=by rw[ay.o.cell];exact a5
      have ab:=ay.o.lt;cases hvec:h.vec
      ·skip
       rw[hvec] at q5;have ag:=hd hvec;clear hvec;have ad:=hd (HY.o.symm.trans (Ss b5.o ag.o));rw[aW.o] at ad;have aT:=hd (Lm (env:=env) (b:=bs) b5.o ag.o);rw[aW.o] at aT;have c7:=hd (fun j (hj:j<=mn)=>Mn (fun k=>1+Ca ln (Bh env h k) bs) hj);have c8:=hd (fun j (hj:j<=mn)=>Mn (fun k=>Av (Bh env h k) bs) hj);have bv:=hd (show Hb env h.var=false by rw[Kv,ax.o.nam];exact aa.o.2.2.2.2.1);have HZ:Hd (h.var.size<=1000000):=hd ae.o.all.2.2.2.2.2.1;have c9:Hd (env.length<=900):=hd (by have:=ax.o.len;omega);go_wp2_with (refine Ac rfl 43 _ rfl sb 0 rfl arr ay.o.wide _ underlying43 rfl aQ.o ?_)
       refine(b6.o w3).mono ?_
       rintro e w4 ⟨v4,rfl,bf,aB⟩;obtain⟨vB,vd,rfl,-,bF⟩:=Bg bf;have bx:=hd bf;have az:Hd (Ext [mb] w2 w4):=hd (a8.o.trans aB.nil);have aV:=hd (aL.o.ext aB (by simp));have ca:=hd bF;clear bf aB bF q5 ab b6;have an:Hd (∀W,Ext [mb] w4 W->Blk W sb 43 arr/\Blk W vb 85 #[.map (some mb)]/\Ext [] w0 W):=hd fun W hW=>⟨aR.o W (az.o.trans hW),aD.o W (af.o W (az.o.trans hW)),ai.o W (af.o W (az.o.trans hW))⟩
       go_wp2_with fail
       go_loopw [7,44] (fun z i wx=>∃(j:Nat) (o:Option Int),i=.int .i64 j/\z=.int .i64 (P+Gp j (fun k=>1+Ca ln (Bh env h k) bs):Nat)/\j<=mn/\Hd (Ext [mb] w4 wx)/\Hd (Bw wx mb (Wz env o h.var))) (fun _ i _=>(mn-intOf i).toNat)
       case atStart=>exact⟨0,none,rfl,by simp[Ib],jQ _,hd (jF _ _),aV⟩
       case round=>
        obtain⟨j,o,rfl,rfl,hj,b0,bG⟩:=hrel;rename World=>wj
        obtain⟨bH,bc,-⟩:=an.o wj b0.o;have aX:=hd bH;have aY:=hd bc;clear bH bc;by_cases bO:j<mn
        ·have bz:(j:Int)<(mn:Int):=by omega
         obtain⟨q,aA,-,cH⟩:=ca.o (by omega)
         have cb:q≠mb:=by
          rcases bx.o.2 with⟨h1,-⟩|⟨g',c',cs,hv,hb,hg,-⟩
          ·rw[aA] at h1;cases h1
          ·rw[aA] at hv;cases hv;exact fun e=>aV.o.apart (show Blk w4 q _ cs from hg) e.symm
         have ce:=hd (Ah bx.o b0.o fun y hy=>by rw[aA] at hy;cases hy;rw[jA];exact cb);have aN:wj.cell? ⟨q,j,none⟩=some (.int .i64 (Dj h j)):=Dg ce.o (by rw[aA];rfl) (by unfold Sv;simp[bO]);have cf:=jB wj _ aN;simp only at cf;have cg:=hd aN;have cD:=hd aA;have b7:=hd (Es aa.o.1.1 aa.o.1.2.1 aa.o.1.2.2 (by rw[aW.o];exact bO):Bdd (Dj h j));have bA:=hd (Da j fun k=>1+Ca ln (Bh env h k) bs);have ch:=hd (Da j fun k=>Av (Bh env h k) bs);have ci:=c7.o (j+1) (by omega);rw[bA.o,<-ad.o] at ci;have bB:=c8.o (j+1) (by omega);rw[ch.o] at bB;have aM:Av (Bh env h j) bs<=2500000:=by have:=aT.o;have:=bo.o;omega
         have aZ:Hd (∀W,Ext [mb] w4 W->Bw W mb (env ++ [(h.var,Dj h j)])->Calls prog 52 #[.slice h.A bn h.cap,.map (some mb),ln] W (RcP mb (env ++ [(h.var,Dj h j)]) (Ca ln (Bh env h j) bs) W)):=hd fun W hW hm=>by
          have hq:=aE.o nb mb ln (Bh env h j) (names ++ [h.var]) h.A h.cap w0 W (.inl (Na.inner ax.o aa.o.2.1 aa.o.2.2.2.1 b7.o)) ae.o.all.2.2.2.2.2.2.1 ae.o.all.2.2.2.2.2.2.2 aa.o.2.2.2.2.2 aK.o hmb (an.o W hW).2.2 hm hln hln2 aM;simp only[St.body] at hq;rw[aw.o] at hq;exact hq
         generalize bD:Ca ln (Bh env h j) bs=CB at *;generalize ct:Gp j (fun k=>1+Ca ln (Bh env h k) bs)=SJ at *;generalize bc:Dj h j=vj at *;clear bD ct bB aM aE aN;subst aA;have aN:=cg.o;have q1:wj.cell? ⟨sb,1,none⟩=some (.string h.var):=by rw[aX.o.cell];exact a1
         have ab:=aX.o.lt;have qv:=aY.o.cell;have am:=aY.o.lt
         go_upto_region 13 with(
          refine Gm _ rfl _ _ _ rfl mb env o h.var vj rfl bG.o rfl rfl bv.o HZ.o (by have:=b7.o.1;have:=b7.o.2;omega) c9.o ?_
          intro w9 au hE9;have aO:=hd au;have ao:=hd (b0.o.trans hE9);clear au hE9 q1 ab qv am aN)
         obtain⟨bd,be,-⟩:=an.o w9 ao.o;have q7:w9.cell? ⟨sb,7,none⟩=some (.slice h.A bn h.cap):=by rw[bd.cell];exact a7
         have ab:=bd.lt;have qv:=be.cell;have am:=be.lt;clear bd be;go_wp2_with fail
         refine(aZ.o w9 ao.o aO.o).mono ?_
         rintro e w8 ⟨rfl,bJ,bK⟩;have b8:=hd (ao.o.trans bJ);have cj:=hd bK;clear bJ bK aZ q7 ab qv am;go_wp2_with fail
         go_roundw
         case rel=>exact⟨j+1,some vj,by go_num,by rw[bA.o];first|rfl|(congr 1;push_cast;first|done|omega),by omega,b8,cj⟩
         case measure=>simp[intOf];omega
        ·have bz:j=mn:=by omega
         subst bz;have q1:wj.cell? ⟨sb,1,none⟩=some (.string h.var):=by rw[aX.o.cell];exact a1
         have ab:=aX.o.lt;have qv:=aY.o.cell;have am:=aY.o.lt
         go_wp2_with (
          refine Hc _ rfl _ _ rfl mb env o h.var rfl bG.o rfl bv.o HZ.o ?_
          intro w9 au hE9;have aO:=hd au;have ao:=hd (b0.o.trans hE9);clear au hE9 q1 ab qv am)
         go_meet
         exact⟨by rw[ad.o],hd (aH.o _ (az.o.trans ao.o)),aO⟩
      ·skip
       rw[hvec] at q5;have ag:=hd hvec;have ap:=hd (aa.o.2.2.1 hvec);clear hvec;have ad:=hd (HY.o.symm.trans (Sr b5.o ag.o));rw[aW.o] at ad;have bC:=Mu (ln:=ln) (env:=env) ap.o aK.o;have ck:bn<=1000000:=by have:=ae.o.all.2.2.2.2.2.2.1.1;have:=aw.o;omega
       rw[aw.o] at bC
       have aZ:Hd (∀W,Ext [mb] w3 W->Bw W mb env->Calls prog 52 #[.slice h.A bn h.cap,.map (some mb),ln] W (RcP mb env (Ca ln env bs) W)):=hd fun W hW hm=>by
        have hq:=aE.o nb mb ln env (names ++ [h.var]) h.A h.cap w0 W (.inr ap.o) ae.o.all.2.2.2.2.2.2.1 ae.o.all.2.2.2.2.2.2.2 aa.o.2.2.2.2.2 aK.o hmb (ai.o W (af.o W (a8.o.trans hW))) hm hln hln2 (by simp only[St.body];rw[Kw ap.o];have:=aw.o;omega);simp only[St.body] at hq;rw[aw.o] at hq;exact hq
       have cl:Hd (∀W,Ext [mb] w3 W->W.cell? ⟨sb,7,none⟩=some (.slice h.A bn h.cap)/\sb<W.heap.size/\W.cell? ⟨vb,0,none⟩=some (.map (some mb))/\vb<W.heap.size):=hd fun W hW=>by
        have hb:=aR.o W (a8.o.trans hW);have hv:=aD.o W (af.o W (a8.o.trans hW));exact⟨by rw[hb.cell];exact a7,hb.lt,hv.cell 0,hv.lt⟩
       generalize Ca ln env bs=CB at *;have bD:CB<=4000001000000:=by omega
       have cm:(mn+ln-1) / ln<=200020:=by
        refine nt (Nat.div_le_self _ _) (by omega)
       have cE:((mn:Int)+ln-1).tdiv ln=((mn+ln-1) / ln:Nat):=by
        have e:(mn:Int)+ln-1=((mn+ln-1:Nat):Int):=by omega
        rw[e];rfl
       generalize cu:(mn+ln-1) / ln=q at *;clear cu;have cF:q*(1+CB)<=200020*4000001000001:=Nat.mul_le_mul cm (by omega);have co:((q:Int)*(1+(CB:Int)))=((q*(1+CB):Nat):Int):=by push_cast;rfl
       generalize cv:q*(1+CB)=PR at *;clear cv;clear bC aE;have cG:¬ln=0:=by omega
       have ba : -9223372036854775808<=(q:Int)*(1+(CB:Int))/\(q:Int)*(1+(CB:Int))<=9223372036854775807:=by rw[co];omega
       obtain⟨cq,cr⟩:=ba;go_upto_region 8 with fail
       clear q5 ab;refine Cu 15 (JM mb env w3) (Ext [mb]) (Bi [(11,Cx (.int .i64 CB))]) (by kernel_rfl) (by kernel_rfl) (fun _ _ h=>h) (Am.cons Cx.stays Am.nil) ⟨(jF _ _).drew,aL.o.ext (S:=[]) (jF _ _).drew (by simp)⟩ ?_
       simp only[TK]
       repeat(refine dE (fun wr nr hJ=>by(obtain⟨q7,ab,qv,am⟩:=cl.o wr hJ.1);clear hJ;exact CL) ?_;simp only[PT])
       refine Fq (Cx (.int .i64 CB)) rfl rfl ?_ ?_
       ·refine EC fun wr nr hJ hf=>?_
        refine(aZ.o wr hJ.1 hJ.2).mono ?_
        rintro e w' ⟨rfl,hE,hv⟩;exact⟨(),rfl,trivial,⟨hJ.1.trans hE,hv⟩,hE⟩
       rintro⟨⟩;simp only[PT];dsimp only[Cx]
       repeat(refine dE (fun wr nr hJ=>by clear hJ;exact CL) ?_;simp only[PT])
       refine Aj (fun w8 hJ hF=>?_)
       have b8:=hd hJ.1;have cp:=hd hJ.2;clear hF hJ;go_wp2_with fail
       go_meet
       exact⟨by rw[ad.o];first|rfl|(congr 1;push_cast;first|done|omega),hd (aH.o _ (a8.o.trans b8.o)),cp⟩
   case rest=>
    obtain⟨rfl,ao,aO⟩:=hcut;go_wp2_with fail
    go_roundw
    case rel=>exact⟨k+1,by go_num,by rw[bl.o],by omega,hd (HE.o.trans ao.o),aO⟩
    case measure=>simp[intOf];omega
  ·have bj:k=m:=by omega
   subst bj;have HT:Hd (l.take k=l):=hd (List.take_of_length_le (by have:=HN.o;omega));go_wp2_with fail
   go_ret
   exact⟨Ae (by rw[HT.o,bW.o]),b1.o.nil.trans HE.o,bE.o⟩
theorem Ag0 (l:List St):RcC l:=by
 have h:∀s:St,RcC s.body:=Dn (P:=fun s=>RcC s.body) fun h ks ih=>Sw ks ih
 exact Sw l fun s _=>h s
end Go.Proofs.YtfppibmloloakaaGreatDoor
