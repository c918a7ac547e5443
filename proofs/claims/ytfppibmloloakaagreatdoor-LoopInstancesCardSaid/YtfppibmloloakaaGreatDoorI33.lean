import Derived.Test.YtfppibmloloakaaGreatDoorI32
namespace Go.Proofs.YtfppibmloloakaaGreatDoor
open Go.RowKit Go.Proofs.Tryz
set_option linter.all false
set_option maxHeartbeats 64000000
def rtA (no:Nat)(A:Option Addr)(n c:Nat)(inst:Nat):Array Value:=#[.int .i64 no,.slice A n c,.int .i64 0,.int .i64 0,.bool false,.int .i64 0,.int .i64 inst]
def kN (keep:Bool)(n:Nat):Nat:=if keep then n else 0
def kL {α:Type}(keep:Bool)(l:List α):List α:=if keep then l else []
def AddP (tb B hi mb pp no inst count:Nat)(keep:Bool)(vs:List Int)(D:List RtD)(many part n:Nat)(ts:List Tch)(V:Option Nat)(w:World)(e:Ending)(w':World):Prop:=
 ∃V',e=.returned (.tuple #[])/\Jp w.heap.size V V'/\Ext (tb :: pp :: V.toList) w w'/\Ey tb B hi keep (D ++ kL keep (ts.map (Ho no vs))) (many+n) count V' w'/\Blk w' pp 3 #[(part+1+kN keep n:Nat)]
theorem Aiq:(prog.info? 113).map (·.size)=some 7:=by kernel_rfl
theorem Aeg (W:World):(zeroValue 113).run prog W=.ok (.agg (rtA 0 none 0 0 0)) W:=by kernel_rfl
theorem ext3 {tb pp:Nat}{V V2:Option Nat}{w w1 w2:World}(h:Ext (tb :: pp :: V.toList) w w1)(hL:Jp w.heap.size V V2)(k:Ext (tb :: pp :: V2.toList) w1 w2):Ext (tb :: pp :: V.toList) w w2:=h.step k fun x hx=>by
 rcases jE.1 hx with rfl|hx
 ·left;simp
 ·rcases jE.1 hx with rfl|hx
  ·left;simp
  ·rcases hL x (jC.1 hx) with h1|h1
   ·left;rw[h1];simp
   ·right;exact h1
attribute [local irreducible] Bm
set_option maxRecDepth 100000 in
theorem Air (tb B hi mb pp nb no inst count U:Nat)(keep:Bool)(VA:Option Addr)(vc:Nat)(names:List ByteArray)(vs:List Int)(w0:World)(hl:vs.length=names.length)(h8:vs.length<=8)(hvb:∀v∈vs,Bdd v)(hn8:∀x∈names,x.size<=8)(hw0:w0.heap.size<=tb)(hpp:hi<=pp)(hpp0:w0.heap.size<=pp):∀e:Ex,Bw names nb e=0->Ap e<=1000000->∀(D:List RtD) (many part:Nat) (V:Option Nat) (w:World),
  Ey tb B hi keep D many count V w->Hf w0 e->Ext [] w0 w->MpR w mb names vs U->Blk w pp 3 #[(part+1:Nat)]->Ia B hi VA vs w->(keep=true->D.length+rdE e<=50000/\part+rdE e<=50000)->many+rdE e<=1000000000000000->
  Calls prog 178 #[.pointer (some tb),exV e,.map (some mb),.agg (rtA no VA vs.length vc inst),.pointer (some pp)] w
   (AddP tb B hi mb pp no inst count keep vs D many part (rdE e) (rdT (names.zip vs) inst part e) V w):=by
 refine Hw fun h ks ih=>?_
 intro hx hp D many part V w hT hXI hE0 hM hP hN hb1 hb2;have HI:=hd ih;have HO:=hd (Xg.of hx);have HT:=hd hT;have aQ:=hd hXI;have aj:=hd hE0;have HM:=hd hM;have aA:=hd hP;have bD:=hd hN
 have c7:=hd (fun j e (hj:ks[j]? = some e)=>(show Ap e<=1000000 by
  have h1:=Eh hj;have h2:Au (ks.take (j+1))<=Au ks:=Ip;rw[Ap] at hp;omega))
 have aR:Hd (rdE (.mk h ks)=rdX h+Dn ks):=hd (by rw[rdE]);have c8:Hd (rdT (names.zip vs) inst part (.mk h ks)=rdC (names.zip vs) h inst part (rdX h) ++ Hv (names.zip vs) inst (part+rdX h) ks):=hd (by rw[rdT]);have aS:=hd hb1;rw[aR.o] at hb2 aS;have d4:ks.length<=1000000:=hXI.row.1
 have bE:Hd (h.k=4->(rdX h:Int)=h.m):=hd fun h4=>by
  have:=(HO.o.one h4).2.2.1;unfold rdX;rw[ijn (by omega),ijp h4];omega
 have aB:Hd (h.k=3->rdX h=1):=hd fun h3=>by unfold rdX;rw[ijp h3]
 have bF:Hd (h.k≠3->h.k≠4->rdX h=0):=hd fun h3 h4=>by unfold rdX;rw[ijn h3,ijn h4]
 have d5:rdX h<=262144:=by
  unfold rdX;split
  ·omega
  split
  ·rename_i h4
   have:=(HO.o.one h4).2.2.1;omega
  ·omega
 have c9:Hd ((h.k=3\/h.k=4)->∀j:Nat,j<rdX h->0<=h.n*(j:Int)/\h.n*(j:Int)<=100000*262144):=hd fun hh j hj=>by
  rcases hh with h3|h4
  ·rw[aB.o h3] at hj;have:j=0:=by omega
   subst this;simp
  ·obtain⟨-,⟨n1,n2⟩,⟨m1,m2⟩,-⟩:=HO.o.one h4;have:=bE.o h4;exact⟨Int.mul_nonneg (by omega) (by omega),Int.mul_le_mul (by omega) (by omega) (by omega) (by omega)⟩
 have ca:=hd (HO.o.kids);have ce:=hd ((Lf (Ja hx).1).2.2.2.2)
 have bG:Hd (-100000000000<=evA (names.zip vs) h.at_/\evA (names.zip vs) h.at_<=100000000000):=hd (by
  rw[<-HO.o.aff.val hl];exact Rj HO.o.aff hvb h8)
 have aT:=hd (fun W (hW:Ext [] w0 W) hm=>Xw h.at_ mb U names vs W (aQ.o.at.keep hW) ce.o hn8 hm);have d6:=hT.2.2;have aU:=hT.1;have d7:=hd hvb;have d8:=hd hn8;have HL:=hd hl;clear ih hx hT hXI hE0 hM hP hN hb1 hvb hn8 hl hp;show Calls _ _ #[_,Gq h ks.length,_,_,_] _ _
 generalize ay:names.zip vs=env at *;have cf:=hd ay;clear ay;generalize c3:vs.length=d at *;have HD:=hd c3;clear c3;generalize c4:ks.length=m at *;have bH:=hd c4;clear c4;have aV:=hd (fun k=>Zt env h inst part k);have ag:=hd ((((jF [] w).alloc (.cells (Cy h m) 41)).alloc (.cells (rtA no VA d vc inst) 113)));have aC:=hd ((jK w 41 (Cy h m)).alloc (.cells (rtA no VA d vc inst) 113));have aW:=hd (jK (w.alloc (.cells (Cy h m) 41)) 113 (rtA no VA d vc inst));rw[Ad] at aW;have d9:((w.alloc (.cells (Cy h m) 41)).alloc (.cells (rtA no VA d vc inst) 113)).heap.size=w.heap.size+1+1:=by rw[Ad,Ad]
 have ak:Hd (Cy h m=#[.int .i64 h.k,.int .i64 h.op,.int .i64 h.lo,.int .i64 h.hi,.int .i64 h.n,.int .i64 h.m,.int .i64 h.buf,.int .i64 h.at_.base,.slice h.at_.A h.at_.ts.length h.at_.cap,.slice h.A m h.cap]):=hd rfl;have ah:Hd (rtA no VA d vc inst=#[.int .i64 no,.slice VA d vc,.int .i64 0,.int .i64 0,.bool false,.int .i64 0,.int .i64 inst]):=hd rfl;unfold Gq;rw[ah.o];go_enter func178,ntmps178
 go_upto_region 1 with fail
 rw[<-ak.o,<-ah.o];generalize World.alloc (World.alloc w _) _=w1 at *;generalize dn:w.heap.size=s at *;have aD:=hd (HT.o.ext0 ag.o);have aX:=hd (HM.o.ext ag.o (by simp));have bI:=hd (aA.o.ext ag.o (by simp));have bJ:=hd (bD.o.ext ag.o (by simp));have al:=hd (aj.o.trans ag.o)
 have aE:Hd (∀g,V=some g->B<=g/\g<s):=hd fun g hg=>by
  obtain⟨h1,C,h2⟩:=HT.o.own hg;have:=h2.lt;exact⟨h1,by omega⟩
 have cg:pp<s:=by have:=aA.o.lt;omega
 have ch:tb<s:=by have:=HT.o.2.1;omega
 have da:Hd (∀(W:World) (V':Option Nat) (D':List RtD) (mn:Nat) (x:Int),Ey tb B hi keep D' mn count V' W->Blk W pp 3 #[x]->V'≠some pp):=hd fun W V' D' mn x hT hP hv=>by
  obtain⟨-,C,h2⟩:=hT.own hv;exact absurd (h2.type hP) (by decide)
 have aY:Hd (pp≠tb):=hd fun e=>by
  obtain⟨-,-,v,O,-,-,hB,-⟩:=HT.o;have:=aA.o;rw[e] at this;exact absurd (hB.type this) (by decide)
 clear HT aA bD HM aj;have q1:=aC.o.cell;rw[ak.o] at q1;have aZ:=aC.o.lt;generalize hX:rdX h=X at *
 have b0:Hd (0<X->h.k=3\/h.k=4):=hd fun h0=>by
  by_cases h3:h.k=3
  ·exact .inl h3
  ·by_cases h4:h.k=4
   ·exact .inr h4
   ·have:=bF.o h3 h4;omega
 go_upto_block 0 with fail
 go_cut [10] (fun s wx=>s=.int .i64 (X:Nat)/\wx=w1)
 case first=>
  by_cases h3:h.k=3
  ·have hx:=aB.o h3;have e3:(h.k==3)=true:=by simpa using h3
   clear h3;generalize h.k=hk at *;go_wp2_with fail
   go_meet
   exact⟨by rw[hx];rfl,rfl⟩
  ·by_cases h4:h.k=4
   ·have hx:=bE.o h4;have e3:(h.k==3)=false:=by simpa using h3
    have e4:(h.k==4)=true:=by simpa using h4
    have ci:=hd hx;clear h3 h4 hx;generalize h.k=hk at *;generalize h.m=hm at *;go_wp2_with fail
    go_meet
    exact⟨by rw[ci.o],rfl⟩
   ·have hx:=bF.o h3 h4;have e3:(h.k==3)=false:=by simpa using h3
    have e4:(h.k==4)=false:=by simpa using h4
    clear h3 h4;generalize h.k=hk at *;go_wp2_with fail
    go_meet
    exact⟨by rw[hx];rfl,rfl⟩
 case rest=>
  obtain⟨rfl,hw⟩:=hcut;have hw':=hw.symm;subst hw';clear q1 aZ hX;have cj:=hd (fun j=>@Xk ks j);generalize c5:Dn ks=RL at *;have ck:=hd c5;clear c5;obtain⟨-,dk,v,O,-,-,hB,-,-⟩:=aD.o;have qt:=hB.cell;have cl:=hB.frozen;have aF:=hB.lt;clear hB;go_upto_region 8 with fail
  have a7:=hd (jL (b:=tb) (i:=1) (u:=.int .i64 ((many:Int)+X)) (.inl (by simp)) (jF [tb] w1));have a8:Hd (Ey tb B hi keep D (many+X) count V (w1.setCell ⟨tb,1,none⟩ (.int .i64 ((many:Int)+X)))):=hd (aD.o.set a7.o fun v hb=>hb.set_' 1 _ _ (by simp))
  have b1:mb≠tb:=by
   obtain⟨-,-,v',O',-,-,hB,-⟩:=aD.o;exact aX.o.apart hB
  have ai:=hd (aX.o.ext a7.o (by rw[jA];exact b1));have am:=hd (bI.o.ext a7.o (by rw[jA];exact aY.o));have bK:Hd (Ia B hi VA vs (w1.setCell ⟨tb,1,none⟩ (.int .i64 ((many:Int)+X)))):=hd (bJ.o.ext a7.o fun b C hb _ _ hm=>by rw[jA.1 hm] at hb;omega);have bL:=hd (aC.o.ext a7.o (by rw[jA];omega));have an:=hd (aW.o.ext a7.o (by rw[jA];omega));have ao:Hd (Ext [] w0 (w1.setCell ⟨tb,1,none⟩ (.int .i64 ((many:Int)+X)))):=hd (Cx al.o a7.o fun x hx=>by rw[jA.1 hx];exact hw0);have b2:Hd (Ext (tb :: pp :: V.toList) w (w1.setCell ⟨tb,1,none⟩ (.int .i64 ((many:Int)+X)))):=hd ((ag.o.nil).step a7.o fun x hx=>.inl (by rw[jA.1 hx];simp));have db:=a7.o.size;clear qt cl aF aD aX bI bJ aC aW al;generalize World.setCell w1 _ _=w2 at *;go_upto_block 1 with fail
  go_cut [] (fun wx=>∃V2,Hd (Jp w2.heap.size V V2)/\Hd (Ext (tb :: pp :: V.toList) w2 wx)/\Hd (Ey tb B hi keep (D ++ kL keep ((rdC env h inst part X).map (Ho no vs))) (many+X) count V2 wx)/\Hd (Blk wx pp 3 #[(part+1+kN keep X:Nat)]))
  case first=>
   cases keep
   ·
    obtain⟨-,dl,v,O,-,-,hB,-,-⟩:=a8.o;have qt:=hB.cell;have aF:=hB.lt;clear hB;go_wp2_with fail
    go_loopw [32] (fun i wr=>i=.int .i64 0/\wr=w2) (fun _ _=>0)
    case atStart=>exact⟨rfl,rfl⟩
    case round=>
     obtain⟨rfl,hw⟩:=hrel;have hw':=hw.symm;subst hw';by_cases h0:(0:Int)<(X:Int)
     ·go_wp2_with fail
      go_meet
      exact⟨V,hd (Jp.refl _ _),hd (jF _ _),hd (by simpa[kL] using a8.o),hd (by simpa[kN] using am.o)⟩
     ·go_wp2_with fail
      go_meet
      exact⟨V,hd (Jp.refl _ _),hd (jF _ _),hd (by simpa[kL] using a8.o),hd (by simpa[kN] using am.o)⟩
   ·skip
    go_wp2_with fail
    go_loopw [32] (fun i wr=>∃(k:Nat) (V2:Option Nat),i=.int .i64 k/\k<=X/\Hd (Jp w2.heap.size V V2)/\Hd (Ext (tb :: pp :: V.toList) w2 wr)/\Hd (Ey tb B hi true (D ++ (rdC env h inst part k).map (Ho no vs)) (many+X) count V2 wr)/\Hd (Blk wr pp 3 #[(part+1+k:Nat)])) (fun i _=>(X-intOf i).toNat)
    case atStart=>exact⟨0,V,rfl,jQ _,hd (Jp.refl _ _),hd (jF _ _),hd (by rw[Zs,List.map_nil,List.append_nil];exact a8.o),am⟩
    case round=>
     obtain⟨k,V2,rfl,hk,ax,HE,bt,bu⟩:=hrel;rename World=>wq
     by_cases d3:k<X
     ·have dc:(k:Int)<(X:Int):=by omega
      have de:=aS.o trivial;have b3:=c9.o (b0.o (by omega)) k d3
      have a6:Hd (∀b,s<=b->b∉tb :: pp :: V.toList):=hd fun b hb hm=>by
       rcases jE.1 hm with h1|hm
       ·omega
       ·rcases jE.1 hm with h1|hm
        ·omega
        ·have:=(aE.o b (jC.1 hm)).2;omega
      have cm:=hd (bL.o.ext HE.o (a6.o s (jD s)));have b4:=hd (an.o.ext HE.o (a6.o (s+1) (by omega)))
      have cn:=hd (ai.o.ext HE.o fun hm=>by
       rcases jE.1 hm with h1|hm
       ·exact b1 h1
       ·rcases jE.1 hm with h1|hm
        ·exact ai.o.apart am.o h1
        ·obtain⟨-,C,hC⟩:=a8.o.own (jC.1 hm);exact ai.o.apart hC rfl)
      have co:Hd (Ia B hi VA vs wq):=hd (bK.o.ext HE.o fun b C hb hb2 hC hm=>by
       rcases jE.1 hm with h1|hm
       ·have:=bt.o.1;omega
       ·rcases jE.1 hm with h1|hm
        ·omega
        ·obtain⟨-,C',bv⟩:=a8.o.own (jC.1 hm);exact absurd (bv.type hC) (by decide))
      have ap:Hd (Ext [] w0 wq):=hd (Cx ao.o HE.o fun x hx=>by
       rcases jE.1 hx with rfl|hx
       ·exact hw0
       ·rcases jE.1 hx with rfl|hx
        ·exact hpp0
        ·have:=(aE.o x (jC.1 hx)).1;omega)
      have df:=HE.o.size;obtain⟨-,dm,v,O,hv,hO,hB,hR,c0⟩:=bt.o;have bM:=hd hv;have bN:=hd hO;have cp:=hd hB;have b5:=hd hR;have cq:=hd c0;have qt:=hB.cell;have aF:=hB.lt;have qb:=b4.o.cell;rw[ah.o] at qb;have aq:=b4.o.lt;clear hv hO hB hR c0;have a2:=hd ((jF [] wq).alloc (.cells (rtA no VA d vc inst) 113));have aG:=hd (jK wq 113 (rtA no VA d vc inst));have dg:(wq.alloc (.cells (rtA no VA d vc inst) 113)).heap.size=wq.heap.size+1:=Ad _ _;have cr:=hd (aV.o k);have ct:part+k<=50000:=by omega
      generalize dp:part+1+k=pk at *;go_upto_region 13 with fail
      rw[<-ah.o];generalize hW:World.alloc wq _=w3 at *;generalize dq:wq.heap.size=cb at *;clear hW qb aq qt aF;have aH:=hd (cm.o.ext a2.o (by simp));have dh:=hd (b4.o.ext a2.o (by simp));have bO:=hd (cn.o.ext a2.o (by simp));have au:=hd (bu.o.ext a2.o (by simp));have cu:=hd (cp.o.ext a2.o (by simp));have aB:=hd (Ah b5.o a2.o (by simp));have cv:Hd (Ia B hi VA vs w3):=hd (co.o.ext a2.o (by simp));have b6:Hd (∀x∈O,Ia B hi x.A x.d.vs w3):=hd fun x hx=>(cq.o x hx).ext a2.o (by simp)
      have b7:=hd (ap.o.trans a2.o);have di:s+1+1<=cb:=by omega
      generalize dr:evA env h.at_=av at *;have m1 : -9223372036854775808<=h.n*(k:Int):=by omega
      have m2:h.n*(k:Int)<=9223372036854775807:=by omega
      have m3 : -9223372036854775808<=av+h.n*(k:Int):=by have:=bG.o.1;omega
      have m4:av+h.n*(k:Int)<=9223372036854775807:=by have:=bG.o.2;omega
      generalize hbf:h.buf=bf at *;generalize dt:h.n=en at *;clear b3;refine rgT 18 cb 15 17 113 (fun x y=>#[no,.slice VA d vc,(if x then 0 else bf:Int),.int .i64 (if y then 0 else av+en*(k:Int)),.bool false,(0:Int),inst]) [(5,Dg (.int .i64 av)),(15,Aao),(17,Aao)] rfl rfl (by simp[Bj]) (by simp[Bj]) (fun oi h=>by cases h;rfl) (fun oi h=>by cases h;rfl) (Mi (fun _ _ _ _ _ _ _=>trivial) (fun _ _ _ _ _ _ _=>trivial) (fun _ _ _ _ _ _ _=>trivial)) aG.o ?_
      simp only[TK]
      repeat(refine dEU (fun wr nr hg hJ=>by(have qx:=(aH.o.ext hJ.1 (by rw[jA];omega)).cell;have cw:=(aH.o.ext hJ.1 (by rw[jA];omega)).lt;rw[ak.o] at qx;have qp:=(au.o.ext hJ.1 (by rw[jA];omega)).cell;have ba:=(au.o.ext hJ.1 (by rw[jA];omega)).lt;clear hg);clear hJ;exact CL) ?_;simp only[PT])
      refine Aip (Dg (.int .i64 av)) rfl rfl (by decide) (by decide) ?_ ?_
      ·refine EC fun wr r hg hJ hf=>?_
       refine(aT.o wr (Cx b7.o hJ.1 fun x hx=>by have:=ap.o.size;rw[jA.1 hx];omega) (bO.o.ext hJ.1 (by rw[jA];exact bO.o.apart aG.o))).mono ?_
       rintro e w' ⟨rfl,hE⟩;exact⟨(),rfl,trivial,hE⟩
      rintro⟨⟩;simp only[PT]
      repeat(refine dEU (fun wr nr hg hJ=>by(have qx:=(aH.o.ext hJ.1 (by rw[jA];omega)).cell;have cw:=(aH.o.ext hJ.1 (by rw[jA];omega)).lt;rw[ak.o] at qx;have qp:=(au.o.ext hJ.1 (by rw[jA];omega)).cell;have ba:=(au.o.ext hJ.1 (by rw[jA];omega)).lt;clear hg);clear hJ;exact CL) ?_;simp only[PT])
      refine Dd Aao rfl rfl (fun _=>rfl) (fun wr r hg hJ hf=>?_) ?_
      ·refine⟨(),wr.setCell ⟨cb,2,none⟩ bf,?_,trivial,hJ.seta (by decide) hg.mine (fun y=>by cases y<;>rfl),jL (.inl (by simp)) (jF _ _)⟩
       have qc:=hJ.2.cell;have qf:=hJ.2.frozen;have aI:=hJ.2.lt;clear hJ hg hf;(go_simp;try go_bits)
       try trivial
      rintro⟨⟩;simp only[PT]
      repeat(refine dEU (fun wr nr hg hJ=>by(clear hg);clear hJ;exact CL) ?_;simp only[PT])
      refine Dd Aao rfl rfl (fun _=>rfl) (fun wr r hg hJ hf=>?_) ?_
      ·refine⟨(),wr.setCell ⟨cb,3,none⟩ (.int .i64 (av+en*(k:Int))),?_,trivial,hJ.setb (by decide) hg.mine (fun y=>by cases y<;>rfl),jL (.inl (by simp)) (jF _ _)⟩
       have qc:=hJ.2.cell;have qf:=hJ.2.frozen;have aI:=hJ.2.lt;clear hJ hg hf;(go_simp;try go_bits)
       try trivial
      rintro⟨⟩;simp only[PT];refine Cp (fun w4 r hr hJ hF=>?_)
      have aJ:=hd hJ.1;have bb:=hJ.2;rw[hr 15 (by decide),hr 17 (by decide)] at bb;have aK:Hd (Blk w4 cb 113 #[no,.slice VA d vc,bf,.int .i64 (av+en*(k:Int)),.bool false,(0:Int),inst]):=hd bb;clear hF hJ hr bb;dsimp only[Dg,Aao];have bc:=hd (au.o.ext aJ.o (by rw[jA];omega));have qc:=aK.o.cell;have qf:=aK.o.frozen;have aI:=aK.o.lt;have cx:=hd (jL (b:=cb) (i:=5) (u:=.int .i64 (pk:Nat)) (.inl (by simp)) aJ.o);have cy:=hd (aK.o.set_' 5 (.int .i64 (pk:Nat)) #[no,.slice VA d vc,bf,.int .i64 (av+en*(k:Int)),.bool false,(pk:Nat),inst] rfl);have aL:=hd (bc.o.far (p:=⟨cb,5,none⟩) (show pp≠cb by omega) (.int .i64 (pk:Nat)));go_upto_region 14 with fail
      generalize World.setCell w4 _ _=w5 at *;clear qc qf aI;have qp:=aL.o.cell;have cB:=aL.o.frozen;have ba:=aL.o.lt;have cC:=hd (jL (b:=pp) (i:=0) (u:=.int .i64 (pk+1)) (.inl (by simp)) (jF [pp] w5));have cD:=hd (aL.o.set_' 0 (.int .i64 (pk+1)) #[(pk+1:Int)] rfl);have bP:=hd (cy.o.far (p:=⟨pp,0,none⟩) (show cb≠pp by omega) (.int .i64 (pk+1)));go_upto_region 15 with fail
      generalize World.setCell w5 _ _=w6 at *;clear qp cB ba
      have aM:Hd (∀q,v.ownBlock=some q->B<=q/\q<cb/\q≠pp):=hd fun q hq=>by
       obtain⟨C,h6⟩:=Ck b5.o hq;have h7:=h6.lt;refine⟨Ae b5.o q hq,by omega,fun e=>?_⟩
       rw[e] at h6;exact absurd (h6.type bu.o) (by decide)
      have a1:Hd (Ext [cb,pp] w3 w6):=hd ((cx.o.mono fun x hx=>.inl (by rw[jA.1 hx];simp)).step cC.o fun x hx=>.inl (by rw[jA.1 hx];simp));have cE:tb<cb:=by omega
      have bd:=hd (cu.o.ext a1.o (by simp only[jE,jH,or_false,not_or];exact⟨by omega,Ne.symm aY.o⟩))
      have be:=hd (Ah aB.o a1.o (fun q hq hm=>by
       have:=aM.o q hq;simp only[jE,jH,or_false] at hm;omega))
      have bQ:∀(b:Nat),b<hi->b∉[cb,pp]\/cb<=b:=fun b hb=>by
       simp only[jE,jH,or_false,not_or];omega
      have cF:Hd (Ia B hi VA vs w6):=hd (cv.o.ext a1.o fun b C hb hb2 hC hm=>by
       have h7:=hC.apart aG.o (by decide);simp only[jE,jH,or_false] at hm;omega)
      have bh:Hd (∀x∈O,Ia B hi x.A x.d.vs w6):=hd fun x hx=>(b6.o x hx).ext a1.o fun b C hb hb2 hC hm=>by
       have h7:=hC.apart aG.o (by decide);simp only[jE,jH,or_false] at hm;omega
      have bR:B<=w6.heap.size:=by have h1:=a1.o.size;have h2:=a2.o.size;omega
      have bi:Hd (tb∉v.ownBlock.toList):=hd fun hm=>by have:=(aM.o tb (jC.1 hm)).1;omega
      have bS:Hd (cb∉v.ownBlock.toList):=hd fun hm=>by have:=(aM.o cb (jC.1 hm)).2.1;omega
      have cG:Hd (∀q,v.ownBlock=some q->q<w6.heap.size):=hd fun q hq=>by
       obtain⟨C,h6⟩:=Ck be.o hq;exact h6.lt
      have bj:=hd (Aef O);obtain⟨i0,cW,cX,cY,cZ⟩:=Acw
      have dj:O.length<=60000:=by
       have h1:=congrArg List.length bN.o;rw[List.length_map,jG,List.length_map,Nj] at h1;omega
      generalize az:O.length=nt at *;have bk:=hd az;clear az;generalize ac:rtL no VA d vc bf (av+en*(k:Int)) false pk inst=news at *;have aN:=hd ac;clear ac;generalize c6:O.flatMap rtC=ts at *;have bT:=hd c6;clear c6;refine rgW 8 v.ownBlock.toList (fun p y=>v.ownBlock=some p.block/\∃q,p.off=nt*7+q/\news[q]? = some y) [(6,Ar w6.heap.size news),(7,Bi B 113 7 nt (ts ++ news) (fun g=>v.ownBlock=some g\/w6.heap.size<=g))] ?_ ?_
      ·refine Am.cons (Ar.stays fun b j u y hb hu hf=>?_) (Am.cons (Bi.stays fun g i x y _ hx hf=>?_) Am.nil)
       ·have:=cG.o b hf.1;omega
       ·obtain⟨-,q,hq,hy⟩:=hf;simp only at hq;subst hq;rw[jM (by rw[bj.o];omega),bj.o,Nat.add_sub_cancel_left,hy] at hx;exact Option.some.inj hx
      simp only[TK]
      repeat(refine dE (fun wr nr hJ=>by(have qb:=(bd.o.ext hJ.1 bi.o).cell;have aq:=(bd.o.ext hJ.1 bi.o).lt;have qc:=(bP.o.ext hJ.1 bS.o).cell;have aI:=(bP.o.ext hJ.1 bS.o).lt);clear hJ;exact CL) ?_;simp only[PT])
      refine Dw (Ar w6.heap.size news) rfl rfl (fun wr nr hJ hf=>?_) ?_
      ·refine⟨wr.heap.size,.cells (rtL no VA d vc bf (av+en*(k:Int)) false pk inst).toArray 113,?_,Ext.size hJ.1,fun j u hu=>?_⟩
       ·refine As rfl _ _ _ _ (.agg (rtL no VA d vc bf (av+en*(k:Int)) false pk inst).toArray) ?_ ?_
        ·rfl
        ·exact Aap wr no VA d vc bf (av+en*(k:Int)) false pk inst
       ·rw[(jK wr 113 (rtL no VA d vc bf (av+en*(k:Int)) false pk inst).toArray).cell j];rw[<-aN.o] at hu;rw[<-hu];simp
      intro (b8:Nat);simp only[PT];refine Ji B b8 48 113 i0 _ 7 72 v nt 1 ts news (fun g=>v.ownBlock=some g\/w6.heap.size<=g) _ _ rfl rfl rfl (by kernel_rfl) cW cX cY cZ rfl (by decide) rfl rfl (by rw[<-aN.o];rfl) (fun u hu=>?_) (fun w' n' hJ hf=>?_) bR (fun g hg hb=>.inl (jC.2 hg)) (fun g hg=>hg.imp And.left id) (fun g q u hg hb hu=>⟨hg,q,rfl,hu⟩) ?_ ?_ ?_
      ·rw[<-aN.o] at hu;unfold rtL at hu;simp only[jE,jH,or_false] at hu;rcases hu with rfl|rfl|rfl|rfl|rfl|rfl|rfl<;>rfl
      ·have h8:(Ar w6.heap.size news).V b8 w':=Bg hf 6 (by kernel_rfl)
       exact⟨Gw be.o hJ.2 fun g i x y hg hx hy=>by
        obtain⟨-,q,hq,-⟩:=hy;have h1:=(ils hx).1;simp only at hq;rw[bj.o] at h1;omega,h8.2⟩
      ·unfold maxLen;omega
      ·omega
      intro u9;simp only[PT];refine Ak (fun wz hJ hF=>?_)
      obtain⟨gz,cz⟩:=u9;have hz:(Bi B 113 7 nt (ts ++ news) (fun g=>v.ownBlock=some g\/w6.heap.size<=g)).V (gz,cz) wz:=hF 7;have bU:Hd (wz.ownsRow B 113 7 (.slice (some gz) (nt+1) cz) (nt+1) (ts ++ news)):=hd hz.1;have cH:Hd (v.ownBlock=some gz\/w6.heap.size<=gz):=hd hz.2;have bV:=hd hJ.1;clear hF hJ hz;dsimp only[Bi];have aO:=hd (bd.o.ext bV.o bi.o);have qb:=aO.o.cell;have qf:=aO.o.frozen;have aq:=aO.o.lt;have cI:=hd (aO.o.set_' 0 (.slice (some gz) (nt+1) cz) #[.slice (some gz) (nt+1) cz,(many+X:Nat),.bool true,count] rfl);have bW:=hd (jL (b:=tb) (i:=0) (u:=.slice (some gz) (nt+1) cz) (.inl (by simp)) (jF [tb] wz))
      have cJ:Hd (gz≠tb):=hd fun h=>by
       have:=Ae bU.o gz rfl;omega
      have bl:Hd (Ext (tb :: v.ownBlock.toList) w6 (wz.setCell ⟨tb,0,none⟩ (.slice (some gz) (nt+1) cz))):=hd ((bV.o.mono fun x hx=>.inl (jI _ hx)).step bW.o fun x hx=>.inl (by rw[jA.1 hx];exact jO ..));have cK:=hd (Ah bU.o bW.o (fun k hk=>by cases hk;rw[jA];exact cJ.o));go_upto_region 16 with fail
      generalize World.setCell wz _ _=w9 at *
      have cL:Hd (rtC ⟨Ho no vs ⟨bf,av+en*(k:Int),(inst:Int),((part+k:Nat):Int),false⟩,VA,vc⟩=news):=hd (by
       rw[<-aN.o];have h1:((part+k:Nat):Int)+1=(pk:Int):=by omega
       simp only[rtC,Ho,HD.o,Bool.false_eq_true,if_false,h1])
      have bm:=hd (Ey.snoc (keep:=true) (many:=many+X) (count:=count) (w:=w6) (w':=w9) (v:=v) (O:=O) (gz:=gz) (cz:=cz) ⟨Ho no vs ⟨bf,av+en*(k:Int),(inst:Int),((part+k:Nat):Int),false⟩,VA,vc⟩ aU bR (by rw[bk.o,bT.o];exact be.o) bh.o cF.o bl.o (by rw[bk.o];exact cI.o) (by rw[bk.o,bT.o,cL.o];exact cK.o));have cM:Hd (O.map RtO.d ++ [Ho no vs ⟨bf,av+en*(k:Int),(inst:Int),((part+k:Nat):Int),false⟩]=D ++ (rdC env h inst part (k+1)).map (Ho no vs)):=hd (by rw[bN.o,cr.o,List.map_append,jP];rfl)
      have cN:=hd (cD.o.ext bl.o (fun hm=>by
       rcases jE.1 hm with h1|hm
       ·exact aY.o h1
       ·exact(aM.o pp (jC.1 hm)).2.2 rfl))
      have aw:part+1+(k+1)=pk+1:=by omega
      have cO:Hd (Blk w9 pp 3 #[.int .i64 (part+1+(k+1):Nat)]):=hd (by rw[aw];exact cN.o);have bn:w2.heap.size<=cb:=by omega
      have cP:Hd (Jp w2.heap.size V (some gz)):=hd fun g hg=>by
       cases hg
       rcases cH.o with h1|h1
       ·exact ax.o gz (bM.o.symm.trans h1)
       ·right
        have:=a1.o.size;have:=a2.o.size;omega
      have bo:Hd (Ext (tb :: pp :: V.toList) w2 w9):=hd (((HE.o.trans a2.o.nil).step a1.o fun x hx=>by
       simp only[jE,jH,or_false] at hx;rcases hx with rfl|rfl
       ·right;exact bn
       ·left;simp).step bl.o fun x hx=>by
       rcases jE.1 hx with rfl|hx
       ·left;simp
       ·rcases ax.o x (bM.o.symm.trans (jC.1 hx)) with h1|h1
        ·left;rw[h1];simp
        ·right;exact h1)
      clear aw;go_wp2_with fail
      go_roundw
      case rel=>exact⟨k+1,some gz,by go_num,by omega,cP,bo,hd (by rw[<-cM.o];exact bm.o),cO⟩
      case measure=>simp[intOf];omega
     ·have cQ:k=X:=by omega
      subst cQ;go_wp2_with fail
      go_meet
      exact⟨V2,ax,HE,by simpa[kL] using bt,by simpa[kN] using bu⟩
  case rest=>
   obtain⟨V2,ax,bx,d1,bz⟩:=hcut;rename World=>w3
   have a6:Hd (∀b,s<=b->b<w2.heap.size->b∉tb :: pp :: V.toList):=hd fun b hb _ hm=>by
    rcases jE.1 hm with h1|hm
    ·omega
    ·rcases jE.1 hm with h1|hm
     ·omega
     ·have:=(aE.o b (jC.1 hm)).2;omega
   have ad:Hd (∀W,Ext (tb :: pp :: V.toList) w2 W->Blk W s 41 (Cy h m)/\Blk W (s+1) 113 (rtA no VA d vc inst)/\MpR W mb names vs U/\Ia B hi VA vs W/\Ext [] w0 W):=hd fun W hE=>by
    refine⟨bL.o.ext hE (a6.o s (jD s) (by omega)),an.o.ext hE (a6.o (s+1) (by omega) (by omega)),ai.o.ext hE fun hm=>?_,bK.o.ext hE fun b C hb hb2 hC hm=>?_,Cx ao.o hE fun x hx=>?_⟩
    ·rcases jE.1 hm with h1|hm
     ·exact b1 h1
     ·rcases jE.1 hm with h1|hm
      ·exact ai.o.apart am.o h1
      ·obtain⟨-,C,hC⟩:=a8.o.own (jC.1 hm);exact ai.o.apart hC rfl
    ·rcases jE.1 hm with h1|hm
     ·have:=a8.o.1;omega
     ·rcases jE.1 hm with h1|hm
      ·omega
      ·obtain⟨-,C',bv⟩:=a8.o.own (jC.1 hm);exact absurd (bv.type hC) (by decide)
    ·rcases jE.1 hx with rfl|hx
     ·exact hw0
     ·rcases jE.1 hx with rfl|hx
      ·exact hpp0
      ·have:=(aE.o x (jC.1 hx)).1;omega
   have bX:part+kN keep X<=part+X:=by unfold kN;split<;>omega
   have q1:=(ad.o w3 bx.o).1.cell;rw[ak.o] at q1;have aZ:=(ad.o w3 bx.o).1.lt;have bp:=hd aQ.o.row;generalize d2:h.A=hA at *;clear d2;go_wp2_with fail
   clear q1 aZ;go_loopw [77] (fun i wr=>∃(j:Nat) (V3:Option Nat),i=.int .i64 j/\j<=m/\Hd (Jp w2.heap.size V V3)/\Hd (Ext (tb :: pp :: V.toList) w2 wr)/\Hd (Ey tb B hi keep ((D ++ kL keep ((rdC env h inst part X).map (Ho no vs))) ++ kL keep ((Hv env inst (part+X) (ks.take j)).map (Ho no vs))) (many+X+Dn (ks.take j)) count V3 wr)/\Hd (Blk wr pp 3 #[.int .i64 (part+kN keep X+kN keep (Dn (ks.take j))+1:Nat)])) (fun i _=>(m-intOf i).toNat)
   case atStart=>exact⟨0,V2,rfl,jQ _,ax,bx,hd (by simpa[Hv,Dn,kL] using d1.o),hd (by
    have h1:part+kN keep X+kN keep (Dn (ks.take 0))+1=part+1+kN keep X:=by simp[Dn,kN];omega
    rw[h1];exact bz.o)⟩
   case round=>
    obtain⟨j,V3,rfl,hj,bA,aP,bB,bC⟩:=hrel;rename World=>wj
    by_cases du:j<m
    ·have bY:(j:Int)<(m:Int):=by omega
     obtain⟨hX,ae,c1,c2,af⟩:=ad.o wj aP.o;obtain⟨b,x,rfl,hx,hc⟩:=(bp.o.keep af).at (i:=j) (by have:=bH.o;omega);have aa:=ilm hx;have bq:=hd (Pw hx);have cR:=hd (Vw (env:=env) (inst:=inst) (part:=part+X) hx);have bZ:Dn (ks.take (j+1))<=RL:=cj.o (j+1);rw[bq.o] at bZ;have ab:=hd ((jF [] wj).alloc (.cells (Ao x) 41))
     have br:=hd (HI.o x aa (ca.o x aa) (c7.o j x hx) _ (many+X+Dn (ks.take j)) (part+kN keep X+kN keep (Dn (ks.take j))) V3 (wj.alloc (.cells (Ao x) 41)) (bB.o.ext0 ab.o) (aQ.o.kid aa) (af.trans ab.o) (c1.ext ab.o (by simp)) (bC.o.ext ab.o (by simp)) (c2.ext ab.o (by simp)) (fun hk=>by
      subst hk;have h1:=aS.o rfl;simp only[kL,kN,if_true,jG,List.length_map,Nj,Pb];exact⟨by omega,by omega⟩) (by omega))
     have HW:=hd (fun j v hv=>hc j v (by rw[Fm];exact hv):∀(j':Nat) (v:Value),(Ao x).toList[j']? = some v->wj.cell? ⟨b,j*10+j',none⟩=some v);have cS:=hd (jK wj 41 (Ao x)).wide;rw[Cv,ah.o] at br;have qb:=(ae.ext ab.o (by simp)).cell;rw[ah.o] at qb;have aq:=(ae.ext ab.o (by simp)).lt;clear hX c1 c2 af hx hc aa ae bZ
     go_wp2_with (first
      | refine Ac rfl 41 _ rfl b (j*10) rfl (Ao x) HW.o _ underlying41 rfl Co ?_
      | refine Av rfl rfl 41 _ _ rfl rfl zEx (Le _) (Ao x) rfl rfl Co rfl (Gf x) ?_
      | refine Ac rfl 41 _ rfl wj.heap.size 0 rfl (Ao x) cS.o _ underlying41 rfl Co ?_)
     refine br.o.mono ?_
     rintro r w7 ⟨V4,rfl,hL,hE,hT,hP⟩;have cT:Hd (Jp w2.heap.size V V4):=hd (bA.o.trans (fun g hg=>(hL g hg).imp id fun h1=>by have:=ab.o.size;omega) (aP.o.size));have aJ:Hd (Ext (tb :: pp :: V.toList) w2 w7):=hd (ext3 (aP.o.trans ab.o.nil) bA.o hE);have cU:=hd hT;have bc:=hd hP;clear hL hE hT hP br qb aq;go_wp2_with fail
     go_roundw
     case rel=>
      refine⟨j+1,V4,by go_num,by omega,cT,aJ,hd ?_,hd ?_⟩
      ·have h1:kL keep ((Hv env inst (part+X) (ks.take (j+1))).map (Ho no vs))=kL keep ((Hv env inst (part+X) (ks.take j)).map (Ho no vs)) ++ kL keep ((rdT env inst (part+kN keep X+kN keep (Dn (ks.take j))) x).map (Ho no vs)):=by
        rw[cR.o];cases keep
        ·rfl
        ·simp[kL,kN]
       rw[h1,<-jP,bq.o,<-Nat.add_assoc];exact cU.o
      ·have h1:part+kN keep X+kN keep (Dn (ks.take j))+1+kN keep (rdE x)=part+kN keep X+kN keep (Dn (ks.take (j+1)))+1:=by
        rw[bq.o];cases keep
        ·simp[kN]
        ·simp[kN];omega
       rw[<-h1];exact bc.o
     case measure=>simp[intOf];omega
    ·have bY:j=m:=by omega
     subst bY;have cV:Hd (ks.take j=ks):=hd (List.take_of_length_le (by have:=bH.o;omega));rw[cV.o,ck.o] at bB bC;go_wp2_with fail
     refine bodyPost_end (results_none rfl _ _ _) rfl ⟨V3,rfl,fun g hg=>(bA.o g hg).imp id fun h1=>by omega,b2.o.trans aP.o,?_,?_⟩
     ·rw[c8.o,aR.o]
      have h1:kL keep ((rdC env h inst part X ++ Hv env inst (part+X) ks).map (Ho no vs))=kL keep ((rdC env h inst part X).map (Ho no vs)) ++ kL keep ((Hv env inst (part+X) ks).map (Ho no vs)):=by
       cases keep
       ·rfl
       ·simp[kL]
      rw[h1,<-jP,<-Nat.add_assoc];exact bB.o
     ·rw[aR.o]
      have h1:part+kN keep X+kN keep RL+1=part+1+kN keep (X+RL):=by
       cases keep
       ·simp[kN]
       ·simp[kN];omega
      rw[<-h1];exact bC.o
end Go.Proofs.YtfppibmloloakaaGreatDoor
