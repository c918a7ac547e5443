import Derived.Test.YtfppibmloloakaaGreatDoorK23
namespace Go.Proofs.YtfppibmloloakaaGreatDoor
open Go.RowKit Go.Proofs.Tryz
set_option linter.all false
set_option maxHeartbeats 64000000
theorem Xa:∀args w,(callFunc 88 args).run prog w=.ok (.enter 88 args) w:=by
 obtain⟨c,hc⟩:∃c,Tryz.f88.body=some c:=⟨_,rfl⟩;exact fun args w=>enters_of func88 (by kernel_rfl) hc args w
set_option maxRecDepth 100000 in
theorem Ad9 (a:Af)(vb mb:Nat)(env:Env)(w:World)(ha:Jn w a)(hg:AfG a)(hm:Bw w mb env)(he:∀p∈env,Bdd p.2)(hv:Blk w vb 85 #[.map (some mb)]) :
  Calls prog 88 (#[afV a] ++ #[.pointer (some vb)]) w (Fk (!decide (0<=evA env a)) w):=by
 have a2:=hd (fun W (hW:Ext [] w W)=>Qu a mb env W (ha.keep hW) hg (hm.ext hW jH) he);have qv:=hv.cell;have a7:=hv.lt;clear ha hg hm he hv;generalize evA env a=E at *;obtain⟨y0,y1,y2,y3⟩:=a;dsimp only[afV] at *;generalize y3.length=m at *;have a1:=hd ((jF [] w).alloc (.cells #[y0,.slice y1 m y2] 38));go_enter func88,ntmps88
 go_wp2_with fail
 refine(a2.o _ a1.o).mono ?_
 rintro r w1 ⟨rfl,hE⟩;have a6:=hd (a1.o.trans hE);clear hE;go_wp2_with fail
 go_ret
 exact⟨Aa (by by_cases h:E<0<;>simp[h]<;>omega),a6.o⟩
theorem Vf (env:Env)(l:List Af):(l.any fun a=>!decide (0<=evA env a)) = !(l.all fun a=>decide (0<=evA env a)):=by
 induction l with
 | nil=>rfl
 | cons a l ih=>simp only[List.any_cons,List.all_cons,ih,Bool.not_and]
def Abb (M s no:Nat)(env:Env)(l:List St)(d:List Az)(s2 no2:Nat)(d2:List Az):Prop:=
 no2<=no+Ab l/\((s2=s+Av env l/\s2<=M/\d2=d ++ Au env no l/\no2=no+Ab l)\/(M<s+Av env l/\M<s2/\s2<=M+2*Bk l))
theorem Acw {l:List St}{j:Nat}:Bk (l.take j)<=Bk l:=by
 have:=Ll (l.take j) (l.drop j);rw[List.take_append_drop] at this;omega
section
variable {M s no s2 no2 s3 no3 k:Nat} {env:Env} {l:List St} {d d2 d3:List Az} {x:St}
theorem Aea (hx:l[k]? = some x)(hK:Abb M s no env (l.take k) d s2 no2 d2)(hm:s2+1<=M)(hq:no3<=no2+Be x)(hr:(s3=s2+Jd env x/\s3<=M/\d3=d2 ++ Cv env no2 x/\no3=no2+Be x)\/(M<s2+Jd env x/\M<s3/\s3<=M+2*Hm x)):Abb M s no env (l.take (k+1)) d s3 no3 d3:=by
 obtain⟨h1,h2⟩:=hK;unfold Abb;rw[Hs hx,Dp hx,Ko hx,Ia hx];rcases h2 with⟨a1,a2,a3,a4⟩|⟨a1,a2,a3⟩
 ·refine⟨by omega,?_⟩
  rcases hr with⟨b1,b2,b3,b4⟩|⟨b1,b2,b3⟩
  ·exact .inl ⟨by omega,b2,by rw[b3,a3,a4,jP],by omega⟩
  ·exact .inr ⟨by omega,b2,by omega⟩
 ·omega
theorem Aeb (hx:l[k]? = some x)(hK:Abb M s no env (l.take k) d s2 no2 d2)(hm:¬s2+1<=M):no2<=no+Ab l/\(s2+1=s+Av env l->s+Av env l<=M->no2=no+Ab l)/\Ad5 M s (Av env l) (s2+1) (2*Bk l) d (Au env no l) d2:=by
 obtain⟨h1,h2⟩:=hK;have e1:=Km hx;have e2:Av env (l.take (k+1))<=Av env l:=Oc;have e3:Bk (l.take (k+1))<=Bk l:=Acw;rw[Dp hx] at e2;rw[Ia hx] at e3;have e4:=Afo env x;refine⟨by omega,fun h=>by omega,.inr ?_⟩
 rcases h2 with⟨a1,a2,a3,a4⟩|⟨a1,a2,a3⟩<;>exact⟨by omega,by omega,by omega⟩
theorem Agr (hK:Abb M s no env l d s2 no2 d2):no2<=no+Ab l/\(s2=s+Av env l->s+Av env l<=M->no2=no+Ab l)/\Ad5 M s (Av env l) s2 (2*Bk l) d (Au env no l) d2:=by
 obtain⟨h1,h2⟩:=hK;rcases h2 with⟨a1,a2,a3,a4⟩|⟨a1,a2,a3⟩
 ·exact⟨h1,fun _ _=>a4,.inl ⟨a1,by omega,a3⟩⟩
 ·exact⟨h1,fun h=>by omega,.inr ⟨a1,a2,by omega⟩⟩
end
set_option maxRecDepth 100000 in
theorem Sn (l:List St)(ih:∀s∈l,WkC s.body):WkC l:=by
 intro f caps C wb mb nb M I w0 w A cap names env s no d hS hCo hR hSt hF hG hE0 hB hM hI hs hMx hno hcn;have c3:l.length<=1000000:=hR.1;have bJ:=hd ih;have aa:=hd hS;have aM:=hd hCo;have HR:=hd hR;have bK:=hd hSt;have bL:=hd hF;have HG:=hd hG;have bM:=hd hE0;have bN:=hd hno;have br:=hd hcn;have c4:=hB.lt;have c5:=hM.lt;have bt:=hd hM;have bu:=hd (show Fa C wb mb M (fnV f caps) I w env ⟨#[]⟩ s no d w from⟨jF _ _,hB,⟨none,hM⟩,hI⟩);clear ih hS hCo hR hSt hF hG hE0 hB hM hI hno hcn;generalize hn:l.length=n at *;have HN:=hd hn;clear hn;have bO:=hd (jK w 85 #[.map (some mb)]);have aI:=hd ((jF [] w).alloc (.cells #[.map (some mb)] 85));go_enter func38,ntmps38
 go_upto_region 1 with fail
 have b5:=hd (bu.o.grow aa.o aI.o);have bP:=hd (bt.o.ext aI.o jH);have c6:(World.alloc w (.cells #[.map (some mb)] 85)).heap.size=w.heap.size+1:=Bm _ _;generalize World.alloc w _=w1 at *;generalize cb:w.heap.size=s0 at *
 have aA:Hd (∀W,Ext (wb :: mb :: C) w1 W->Blk W s0 85 #[.map (some mb)]):=hd fun W hW=>bO.o.ext hW (fun hm=>by
  rcases jE.1 hm with h1|h1
  ·omega
  ·rcases jE.1 h1 with h1|h1
   ·omega
   ·have:=aM.o _ h1;omega)
 have bQ:=hd (show Fa C wb mb M (fnV f caps) I w1 env ⟨#[]⟩ s no d w1 from⟨jF _ _,b5.o.blk,b5.o.map,b5.o.inv⟩)
 have ac:Hd (∀W,Ext (wb :: mb :: C) w1 W->Ext [] w0 W):=hd fun W hW=>Ea (bM.o.trans aI.o) hW fun x hx=>by
  rcases jE.1 hx with h1|h1
  ·rw[h1];exact aa.o.wlow
  ·rcases jE.1 h1 with h1|h1
   ·rw[h1];exact aa.o.mlow
   ·exact(aa.o.low _ h1).1
 have bR:=aI.o.size;clear bu b5 bt;go_wp2_with fail
 go_loopw [11] (fun i wr=>∃(k s2 a8:Nat) (d2:List Az),i=.int .i64 k/\k<=n/\Hd (Fa C wb mb M (fnV f caps) I w1 env ⟨#[]⟩ s2 a8 d2 wr)/\Hd (Bw wr mb env)/\Hd (Abb M s no env (l.take k) d s2 a8 d2)) (fun i _=>(n-intOf i).toNat)
 case atStart=>exact⟨0,s,no,d,rfl,jQ _,bQ,bP,hd ⟨by simp,.inl ⟨by simp[Av],hs,by simp[Au],by simp[Ab]⟩⟩⟩
 case round=>
  obtain⟨k,s2,a8,d2,rfl,hk,aK,bF,HK⟩:=hrel;rename World=>wq
  by_cases cf:k<n
  ·obtain⟨bb,x,rfl,hx,hc⟩:=(HR.o.keep (ac.o _ aK.o.ext)).at (i:=k) (by have:=HN.o;omega);obtain⟨h,b⟩:=x;have c7:=hd hx;have am:=ilm hx;have aN:=bL.o _ am;have ai:=hd (bK.o _ am);have bh:WkC b:=bJ.o _ am;have bv:Bk (l.take (k+1))<=Bk l:=Acw;rw[Ia hx,show Hm (.mk h b)=1+Bk b by rw[Hm]] at bv;have bi:Bk b<=3000:=by have:=br.o;omega
   have aO:=Km hx;have c8:a8+Be (.mk h b)<=3000:=by have h1:=bN.o;have h2:=HK.o.1;omega
   have ap:=hd (fun(hm:s2+1<=M) s3 no3 d3=>Aea (s3:=s3) (no3:=no3) (d3:=d3) hx HK.o hm);have aq:=hd (Aeb hx HK.o);have bS:s2<=1000000000:=by have h9:=br.o;rcases HK.o.2 with⟨h1,h2,-⟩|⟨h1,h2,h3⟩<;>omega
   have HW:=hd (fun j v hv=>hc j v hv:∀(j:Nat) (v:Value),(Ai h b.length h.val.h h.val.ks.length).toList[j]? = some v->wq.cell? ⟨bb,k*21+j,none⟩=some v);have bx:=hd (jK wq 43 (Ai h b.length h.val.h h.val.ks.length));have aP:=hd ((jF [] wq).alloc (.cells (Ai h b.length h.val.h h.val.ks.length) 43));obtain⟨a0,a1,a2,a3,a4,a5,a6,a7,-⟩:=Cf h b.length h.val.h h.val.ks.length;have b6:=hd (show(prog.info? 43).map (·.size)=some (Ai h b.length h.val.h h.val.ks.length).size from Dv);have bz:=hd (show zSt.size=(Ai h b.length h.val.h h.val.ks.length).size from rfl);have bA:=hd (Cz h b.length h.val.h h.val.ks.length)
   have aQ:(h.k=3/\b=[])\/(h.k=2/\(∀a∈h.conds,Cn names a=0)/\∀s∈b,Fd nb names s)\/h.k=1:=by
    cases aN with
    | loop _ _ _ hk'=>exact .inr (.inr hk')
    | when _ _ _ hk' _ h1 _ h2=>exact .inr (.inl ⟨hk',h1,h2⟩)
    | store _ _ hk'=>exact .inl ⟨hk',rfl⟩
   have ad:=hd (fun(az:h.k=1) (hno':a8+Ab b<=3000) W (hCo:∀x∈C,x<W.heap.size) (hE:Ext [] w0 W) (hB:Blk W wb 84 (wkA M (s2+1:Nat) a8 (fnV f caps))) (hM:Bw W mb env) (hI:I d2 W) (hs':s2+1<=M)=>show ∃N,Jd env (.mk h b)=1+N/\Calls prog 90 #[.pointer (some wb),Ez h b.length,.map (some mb)] W
     (Yv C wb mb M (s2+1) N (Ab b) (2*Bk b+1) a8 (fnV f caps) (fun e=>e=env) I d2 (Cv env a8 (.mk h b)) W) from by
    cases hv:h.vec
    ·exact⟨_,Lm az hv,Ad8 f caps C wb mb nb M I w0 W h b names env (s2+1) a8 d2 aa.o hCo ai.o aN az hv HG.o hE hB hM hI hs' hMx hno' bi bh⟩
    ·exact⟨_,Rm az hv,Ad6 f caps C wb mb nb M I w0 W h b names env (s2+1) a8 d2 aa.o hCo ai.o aN az hv HG.o hE hB hM hI hs' hMx hno' bi⟩)
   have aj:=hd (fun(ay:h.k=3) (hb:b=[]) W (hI:I d2 W) (hE:Ext [] w0 W) (hM:Bw W mb env) (h3:a8<=3000)=>show Calls prog f (#[Ez h b.length,.int .i64 a8,.map (some mb)] ++ caps) W fun e w'=>e=.returned (.tuple #[])/\Ext C W w'/\I (d2 ++ [⟨a8,h,env⟩]) w' from by
    subst hb;exact aa.o.call d2 h a8 names env W hI (ai.o.keep hE) aN ay hM HG.o h3)
   have bB:=hd (Nu (.mk h b));clear hx hc am aN bv aO;unfold Ez at ad aj;generalize Ai h b.length h.val.h h.val.ks.length=arr at *;generalize bI:b.length=bn at *;have bj:=hd bI;clear bI;have bT:=aK.o.ext.size;go_upto_block 1 with fail
   go_cut [] (fun wx=>∃(s3 no3:Nat) (d3:List Az),Hd (Fa C wb mb M (fnV f caps) I w1 env ⟨#[]⟩ s3 no3 d3 wx)/\Hd (Bw wx mb env)/\Hd (Abb M s no env (l.take (k+1)) d s3 no3 d3))
   case first=>
    go_wp2_with (first
     | refine Ac rfl 43 _ rfl bb (k*21) rfl arr HW.o _ underlying43 rfl b6.o ?_
     | refine Ax rfl rfl 43 _ _ rfl rfl zSt (Ge _) arr rfl rfl b6.o bz.o bA.o ?_)
    have bk:=hd (aK.o.grow aa.o aP.o);have bU:=hd (bF.o.ext aP.o jH);have bV:=hd bk.o.ext;generalize World.alloc wq _=w2 at *;generalize ce:wq.heap.size=sb at *
    have ak:Hd (∀W,Ext (wb :: mb :: C) w2 W->Blk W sb 43 arr):=hd fun W hW=>bx.o.ext hW (fun hm=>by
     rcases jE.1 hm with h1|h1
     ·omega
     ·rcases jE.1 h1 with h1|h1
      ·omega
      ·have:=aM.o _ h1;omega)
    clear HW bz bA bx;refine(Mt wb M s2 a8 _ _ bk.o.blk bS (by omega)).mono ?_
    rintro e w3 ⟨rfl,hE,hB⟩;have ab:=hd (bk.o.stepd aa.o hE hB);have aR:=hd (bU.o.ext hE (by rw[jA];exact Ne.symm aa.o.apart));have al:Hd (Ext (wb :: mb :: C) w2 w3):=hd ((jF _ _).step hE fun x hx=>.inl (by rw[jA.1 hx];exact jO ..));clear hE hB;by_cases af:s2+1<=M
    ·have e2:decide (s2+1<=M)=true:=by simpa using af
     rw[e2];have qb:=(ak.o _ al.o).cell;have au:=(ak.o _ al.o).lt;have b7:=hd (ap.o af);clear ap aq;rcases aQ with⟨ay,bq⟩|⟨bf,bG,bH⟩|az
     ·have bW:=hd (aj.o ay bq);have b8:=hd (show Jd env (.mk h b)=1 from Kl ay);have ba:=hd (show Cv env a8 (.mk h b)=[⟨a8,h,env⟩] from Hk ay);have ah:=hd (show Be (.mk h b)=1 by subst bq;rw[Be,ijp ay];rfl);have bX:a8<=3000:=by omega
      clear aj ad;rw[ay] at a0;clear ay bq;go_wp2_with fail
      refine rgE 10 [] ?_
      simp only[TK]
      repeat(refine dE (fun wr nr hJ=>by(have qw:=(ab.o.blk.ext hJ (by simp)).cell;unfold wkA fnV at qw;have aJ:=(ab.o.blk.ext hJ (by simp)).lt);clear hJ;exact CL) ?_;simp only[PT])
      refine Ha rfl rfl ?_
      apply Exists.intro
      refine⟨fun wr nr hJ=>?_,?_⟩
      ·exact Dx 43 _ rfl sb 0 rfl arr ((ak.o _ al.o).ext hJ (by simp)).wide _ underlying43 rfl b6.o
      simp only[PT]
      repeat(refine dE (fun wr nr hJ=>by(have qw:=(ab.o.blk.ext hJ (by simp)).cell;unfold wkA fnV at qw;have aJ:=(ab.o.blk.ext hJ (by simp)).lt;have qv:=((aA.o _ ab.o.ext).ext hJ (by simp)).cell;have aS:=((aA.o _ ab.o.ext).ext hJ (by simp)).lt);clear hJ;exact CL) ?_;simp only[PT])
      refine Aj (fun w5 hJ hF=>?_)
      have ag:=hd (ab.o.grow aa.o hJ);have aB:=hd (aR.o.ext hJ jH);clear hF hJ qb au;go_wp2_with fail
      rw[aa.o.enters,Oper.upon_enter];refine(bW.o _ ag.o.inv (ac.o _ ag.o.ext) aB.o bX).mono ?_
      rintro e w6 ⟨rfl,hE,hI⟩;have ae:=hd (ag.o.seen aa.o hE hI);have aC:=hd (aB.o.ext hE aa.o.wC.2);clear hE hI;have qw:=ae.o.blk.cell;have qf:=ae.o.blk.frozen;unfold wkA at qw qf;have aJ:=ae.o.blk.lt;have aT:=hd (ae.o.blk.set_' 2 (.int .i64 (a8+1)) (wkA M (s2+1:Nat) (a8+1:Nat) (fnV f caps)) rfl);have aw:=hd (jL (b:=wb) (i:=2) (u:=.int .i64 (a8+1)) (.inl (by simp)) (jF [wb] w6));have an:=hd (ae.o.stepd aa.o aw.o aT.o);have aU:=hd (aC.o.ext aw.o (by rw[jA];exact Ne.symm aa.o.apart));go_wp2_with fail
      go_meet
      exact⟨s2+1,a8+1,_,an,aU,hd (b7.o _ _ _ (by rw[ah.o];exact jD _) (.inl ⟨by rw[b8.o],af,by rw[ba.o],by rw[ah.o]⟩))⟩
     ·have b8:=hd (Gx (env:=env) (b:=b) bf);have ba:=hd (Ij (env:=env) (no:=a8) (b:=b) bf);have ah:=hd (show Be (.mk h b)=Ab b by rw[Be,ijn (by omega),Nat.zero_add]);have bl:=hd (show Hm (.mk h b)=1+Bk b by rw[Hm]);have aV:Ab b<=3000:=by have:=ah.o;omega
      have aD:a8+Ab b<=3000:=by have:=ah.o;omega
      have bC:=hd (fun W (hCo:∀x∈C,x<W.heap.size) hE hB hM hI=>bh f caps C wb mb nb M I w0 W h.A h.cap names env (s2+1) a8 d2 aa.o hCo ai.o.all.2.2.2.2.2.2.1 ai.o.all.2.2.2.2.2.2.2 bH HG.o hE hB hM hI af hMx aD bi);rw[bj.o] at bC;have aW:=hd (fun W (hE:Ext [] w0 W) (hM:Bw W mb env) (hv:Blk W s0 85 #[.map (some mb)])=>Afi h.cA h.conds.length h.cc h.conds 88 #[.pointer (some s0)] (fun a=>!decide (0<=evA env a)) W (ai.o.all.1.keep hE) rfl ⟨Xa,fun i x hx w' hw'=>Ad9 x s0 mb env w' ((ai.o.all.2.1 x (ilm hx)).keep (hE.trans hw')) (AfG.of (bG x (ilm hx)) HG.o.size) (Bw.ext hM hw' jH) HG.o.bdd (hv.ext hw' (by simp))⟩);have bY:=hd (show(h.conds.any fun a=>!decide (0<=evA env a)) = !Ec env h from Vf env h.conds);rw[bY.o] at aW;clear aj ad bG bH bh;rw[bf] at a0;clear bf;have qw:=ab.o.blk.cell;unfold wkA at qw;have aJ:=ab.o.blk.lt;go_wp2_with fail
      refine(aW.o _ (ac.o _ ab.o.ext) aR.o (aA.o _ ab.o.ext)).mono ?_
      rintro e w5 ⟨rfl,hE⟩;have ag:=hd (ab.o.grow aa.o hE);have aB:=hd (aR.o.ext hE jH);have bm:=hd ((ak.o _ al.o).ext hE (by simp));clear hE qb au qw aJ;have qb:=bm.o.cell;have au:=bm.o.lt;have qv:=(aA.o _ ag.o.ext).cell;have aS:=(aA.o _ ag.o.ext).lt;cases hh:Ec env h
      ·have ao:=hd (show Jd env (.mk h b)=1 by rw[b8.o,hh];rfl);have aE:=hd (show Cv env a8 (.mk h b)=[] by rw[ba.o,hh];rfl);clear hh;go_wp2_with fail
       refine(bB.o h.A bn h.cap _ (ai.o.all.2.2.2.2.2.2.1.keep (ac.o _ ag.o.ext)) (fun s hs=>(ai.o.all.2.2.2.2.2.2.2 s hs).keep (ac.o _ ag.o.ext)) bj.o aV).mono ?_
       rintro e w7 ⟨rfl,hE⟩;have ae:=hd (ag.o.grow aa.o hE);have aC:=hd (aB.o.ext hE jH);clear hE qb au qv aS;have bo:Ab (St.mk h b).body=Ab b:=rfl;rw[bo];generalize aO:Ab b=sl at *;have qw:=ae.o.blk.cell;have qf:=ae.o.blk.frozen;unfold wkA at qw qf;have aJ:=ae.o.blk.lt;have aT:=hd (ae.o.blk.set_' 2 (.int .i64 (a8+sl)) (wkA M (s2+1:Nat) (a8+sl:Nat) (fnV f caps)) rfl);have aw:=hd (jL (b:=wb) (i:=2) (u:=.int .i64 (a8+sl)) (.inl (by simp)) (jF [wb] w7));have an:=hd (ae.o.stepd aa.o aw.o aT.o);have aU:=hd (aC.o.ext aw.o (by rw[jA];exact Ne.symm aa.o.apart));clear aO;go_wp2_with fail
       go_meet
       exact⟨s2+1,a8+sl,_,an,aU,hd (b7.o _ _ _ (by rw[ah.o];exact jD _) (.inl ⟨by rw[ao.o],af,by rw[aE.o,List.append_nil],by rw[ah.o]⟩))⟩
      ·have ao:=hd (show Jd env (.mk h b)=1+Av env b by rw[b8.o,hh];rfl);have aE:=hd (show Cv env a8 (.mk h b)=Au env a8 b by rw[ba.o,hh];rfl);clear hh;go_wp2_with fail
       have c9:=ag.o.ext.size;refine(bC.o _ (fun x hx=>by have:=aM.o x hx;omega) (ac.o _ ag.o.ext) ag.o.blk aB.o ag.o.inv).mono ?_
       rintro e w7 ⟨rfl,aL,bc,bp,aG,hE,aZ,aH,rfl,b0,bd,be,b4⟩;have ae:=hd (show Fa C wb mb M (fnV f caps) I w1 aG ⟨#[]⟩ aL bc bp w7 from⟨ag.o.ext.trans hE,aZ,⟨none,aH⟩,b0⟩);have aC:=hd aH;have aX:=hd b4
       have bD:=hd (bm.o.ext hE (fun hm=>by
        rcases jE.1 hm with h1|h1
        ·omega
        ·rcases jE.1 h1 with h1|h1
         ·omega
         ·have:=aM.o _ h1;omega))
       clear hE aZ aH b0 b4 qb au qv aS bd be;have qb:=bD.o.cell;have au:=bD.o.lt;go_wp2_with fail
       refine(bB.o h.A bn h.cap _ (ai.o.all.2.2.2.2.2.2.1.keep (ac.o _ ae.o.ext)) (fun s hs=>(ai.o.all.2.2.2.2.2.2.2 s hs).keep (ac.o _ ae.o.ext)) bj.o aV).mono ?_
       rintro e w8 ⟨rfl,hE⟩;have an:=hd (ae.o.grow aa.o hE);have aU:=hd (aC.o.ext hE jH);clear hE qb au;have bo:Ab (St.mk h b).body=Ab b:=rfl;rw[bo];generalize aO:Ab b=sl at *;have qw:=an.o.blk.cell;have qf:=an.o.blk.frozen;unfold wkA at qw qf;have aJ:=an.o.blk.lt;have aT:=hd (an.o.blk.set_' 2 (.int .i64 (a8+sl)) (wkA M aL (a8+sl:Nat) (fnV f caps)) rfl);have aw:=hd (jL (b:=wb) (i:=2) (u:=.int .i64 (a8+sl)) (.inl (by simp)) (jF [wb] w8));have bZ:=hd (an.o.stepd aa.o aw.o aT.o);have c0:=hd (aU.o.ext aw.o (by rw[jA];exact Ne.symm aa.o.apart));clear aO;go_wp2_with fail
       go_meet
       refine⟨aL,a8+sl,_,bZ,c0,hd (b7.o _ _ _ (by rw[ah.o];exact jD _) ?_)⟩
       rcases aX.o with⟨b1,b2,b3⟩|⟨b1,b2,b3⟩
       ·exact .inl ⟨by rw[ao.o];omega,by omega,by rw[aE.o,b3],by rw[ah.o]⟩
       ·exact .inr ⟨by rw[ao.o];omega,b2,by rw[bl.o];omega⟩
     ·have ah:=hd (show Be (.mk h b)=Ab b by rw[Be,ijn (by omega),Nat.zero_add]);have bl:=hd (show Hm (.mk h b)=1+Bk b by rw[Hm]);have aD:a8+Ab b<=3000:=by have:=ah.o;omega
      have ca:=ab.o.ext.size;obtain⟨N,hN,ax⟩:=ad.o az aD w3 (fun x hx=>by have:=aM.o x hx;omega) (ac.o _ ab.o.ext) ab.o.blk aR.o ab.o.inv af;have bE:=hd hN;have aY:=hd ax;clear aj ad hN ax;rw[az] at a0;clear az;have qv:=(aA.o _ ab.o.ext).cell;have aS:=(aA.o _ ab.o.ext).lt
      go_wp2_with (
       refine Ac rfl 43 _ rfl sb 0 rfl arr (ak.o _ al.o).wide _ underlying43 rfl b6.o ?_)
      refine aY.o.mono ?_
      rintro e w7 ⟨rfl,aL,bc,bp,aG,hE,aZ,aH,rfl,b0,bd,be,b4⟩;have ae:=hd (show Fa C wb mb M (fnV f caps) I w1 aG ⟨#[]⟩ aL bc bp w7 from⟨ab.o.ext.trans hE,aZ,⟨none,aH⟩,b0⟩);have aC:=hd aH;have aX:=hd (And.intro bd (And.intro be b4));clear hE aZ aH b0 b4 qb au qv aS bd be;go_wp2_with fail
      go_meet
      refine⟨aL,bc,_,ae,aC,hd (b7.o _ _ _ (by rw[ah.o];exact aX.o.1) ?_)⟩
      rcases aX.o.2.2 with⟨b1,b2,b3⟩|⟨b1,b2,b3⟩
      ·exact .inl ⟨by rw[bE.o];omega,by omega,b3,by rw[ah.o];exact aX.o.2.1 b1 b2⟩
      ·exact .inr ⟨by rw[bE.o];omega,b2,by rw[bl.o];omega⟩
    ·have e2:decide (s2+1<=M)=false:=by simpa using af
     rw[e2];have aF:=hd (aq.o af);go_wp2_with fail
     exact bodyPost_ret (results_none rfl _ _ _) rfl ⟨rfl,s2+1,a8,d2,env,aI.o.nil.trans ab.o.ext,ab.o.blk,aR.o,rfl,ab.o.inv,aF.o.1,aF.o.2.1,aF.o.2.2⟩
   case rest=>
    obtain⟨s3,no3,d3,ag,aB,c2⟩:=hcut;go_wp2_with fail
    go_roundw
    case rel=>exact⟨k+1,s3,no3,d3,by go_num,by omega,ag,aB,c2⟩
    case measure=>simp[intOf];omega
  ·have c1:k=n:=by omega
   subst c1;have HT:Hd (l.take k=l):=hd (List.take_of_length_le (by have:=HN.o;omega));rw[HT.o] at HK;have aF:=hd (Agr HK.o);go_wp2_with fail
   exact bodyPost_end (results_none rfl _ _ _) rfl ⟨rfl,s2,a8,d2,env,aI.o.nil.trans aK.o.ext,aK.o.blk,bF.o,rfl,aK.o.inv,aF.o.1,aF.o.2.1,aF.o.2.2⟩
theorem Aec:∀s:St,WkC s.body:=Dn fun h b ih=>Sn b ih
end Go.Proofs.YtfppibmloloakaaGreatDoor
