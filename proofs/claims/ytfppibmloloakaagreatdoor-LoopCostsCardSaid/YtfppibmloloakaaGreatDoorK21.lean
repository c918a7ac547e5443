import Derived.Test.YtfppibmloloakaaGreatDoorK20
import Derived.Test.YtfppibmloloakaaGreatDoorK15
import Derived.ArgAppend
namespace Go.Proofs.YtfppibmloloakaaGreatDoor
open Go.RowKit Go.Proofs.Tryz
set_option linter.all false
set_option maxHeartbeats 64000000
mutual
def ptS:St->Prop|.mk h b=>Al h.val<=1000000/\ptL b
def ptL:List St->Prop | []=>True|s :: l=>ptS s/\ptL l
end
theorem Acs:∀{l:List St},ptL l->∀s∈l,ptS s
 | [],_,_,hs=>by cases hs
 | a :: l,h,s,hs=>by
  unfold ptL at h;rcases jE.1 hs with rfl|h1
  ·exact h.1
  ·exact Acs h.2 s h1
theorem Aiw {h:SH}{b:List St}(hp:ptS (.mk h b)):Al h.val<=1000000/\ptL b:=by unfold ptS at hp;exact hp
set_option maxRecDepth 100000 in
theorem Agj (VA:Option Addr)(vn vc:Nat)(w:World)(hn:VA=none->vn=0/\vc=0)(hc:vn<=vc)(hb:∀a,VA=some a->∃b,a=⟨b,0,none⟩):Calls prog 83 #[.slice VA vn vc] w fun e w'=>e=.returned (.slice VA vn vn)/\Ext [] w w':=by
 cases VA with
 | none=>
  obtain⟨rfl,rfl⟩:=hn rfl;clear hn hb;go_enter func83,ntmps83
  go_wp2_with fail
  go_ret
  exact⟨rfl,jF _ _⟩
 | some a=>
  obtain⟨b,rfl⟩:=hb a rfl;clear hn hb;go_enter func83,ntmps83
  go_wp2_with fail
  go_ret
  exact⟨rfl,jF _ _⟩
theorem Sj {w w':World}{A:Option Addr}{l:List ByteArray}{cb:Nat}{t:TypeId}{bA:Option Addr}{nb bc:Nat}{y z:Value}(h:Ak w A 1 sC l)(hB:Blk w cb t #[.slice bA nb bc,y,z])(hE:Ext [cb] w w'):Ak w' A 1 sC l:=by
 obtain⟨h0,hx⟩:=h;rcases hx with hx|⟨b,rfl,hc⟩
 ·subst hx;exact Ak.nil _ _ _ _
 ·by_cases he:l=[]
  ·subst he;exact Ak.nil _ _ _ _
  ·refine Ak.ext ⟨h0,.inr ⟨b,rfl,hc⟩⟩ hE fun x hx b' o' hb'=>?_
   cases hb'
   rw[jA.1 hx];rintro rfl;obtain⟨x,hx⟩:∃x,l[0]? = some x:=⟨_,jJ (List.length_pos_iff.2 he)⟩;have h1:=hc 0 x hx 0 _ rfl;rw[hB.cell] at h1;cases h1
theorem Agk {w:World}{A:Option Addr}{l:List ByteArray}(h:Ak w A 1 sC l):∀b,A=some b->∀(j:Nat) u,(l.map sV)[j]? = some u->w.cell? (b.add j)=some u:=by
 obtain⟨h0,hx⟩:=h;intro b hb j u hu;rcases hx with hx|⟨g,rfl,hc⟩
 ·subst hx;cases hu
 ·cases hb
  rw[Addr.add_lit];rw[List.getElem?_map] at hu;obtain⟨x,hx,rfl⟩:=Option.map_eq_some_iff.1 hu;have:=hc j x hx 0 _ rfl;simpa[sV] using this
def VzP (A:Option Addr)(n c:Nat):Prop:=(A=none->n=0/\c=0)/\n<=c/\∀a,A=some a->∃b,a=⟨b,0,none⟩
theorem Agl {g n c:Nat}(h:n<=c):VzP (some g) n c:=⟨fun h=>(by cases h),h,fun a ha=>(by cases ha;exact⟨_,rfl⟩)⟩
def Ak7 (nb:Nat)(vars:List ByteArray)(before:Nat)(l:List St)(cb:Nat)(bA:Option Addr)(bc:Nat)(v1:Value)(w:World)(e:Ending)(w':World):Prop:=
 ∃bf:Nat,e=.returned (.int .i64 (Eo nb vars before l))/\Ext [cb] w w'/\Blk w' cb 78 #[.slice bA nb bc,v1,bf]/\bf<=3000/\(Eo nb vars before l=0->bf=before+Bk l)
def Acu (l:List St):Prop:=∀(A:Option Addr) (n cap:Nat) (vars:List ByteArray) (VA:Option Addr) (vn vc:Nat) (w0 w:World) (cb:Nat) (bA:Option Addr) (nb bc:Nat) (v1:Value) (before:Nat),Ak w0 A 21 stC l->(∀s∈l,Gc w0 s)->ptL l->l.length=n->Ext [] w0 w->w0.heap.size<=cb->
 Ak w VA 1 sC vars->vars.length=vn->VzP VA vn vc->Blk w cb 78 #[.slice bA nb bc,v1,before]->nb<=1000000->before<=3000->
  Calls prog 35 #[.pointer (some cb),.slice A n cap,.slice VA vn vc] w (Ak7 nb vars before l cb bA bc v1 w)
set_option maxRecDepth 100000 in
theorem Vc (l:List St)(ih:∀s∈l,Acu s.body):Acu l:=by
 intro A n cap vars VA vn vc w0 w cb bA nb bc v1 before hR hS hpt hn hE0 hcb hV hvn ae hC hnb hbf;have bI:n<=1000000:=by have:=hR.1;omega
 have HI:=hd ih;have HR:=hd hR;have HS:=hd hS;have aU:=hd (fun h b hs=>Aiw (Acs hpt _ hs):∀h b,St.mk h b∈l->Al h.val<=1000000/\ptL b);have HN:=hd hn;have aJ:=hd hE0;have HV:=hd hV;have ab:=hd hvn;have aV:=hd ae;have HC:=hd hC;clear ih hR hS hpt hn hE0 hV hvn ae hC;go_enter func35,ntmps35
 go_wp2_with fail
 go_loopw [14] (fun i wr=>∃k:Nat,i=.int .i64 k/\k<=n/\Hd (Ext [cb] w wr)/\Hd (Blk wr cb 78 #[.slice bA nb bc,v1,.int .i64 (before+Bk (l.take k):Nat)]/\before+Bk (l.take k)<=3000)/\Hd (∀(j:Nat) (s:St),j<k->l[j]? = some s->stE nb vars (before+Bk (l.take j)) s=0)) (fun i _=>(n-intOf i).toNat)
 case atStart=>exact⟨0,rfl,jQ _,hd (jF _ _),hd ⟨by simpa[Bk] using HC.o,by simpa[Bk] using hbf⟩,hd fun j x hj=>absurd hj (by omega)⟩
 case round=>
  obtain⟨k,rfl,hk,HE,an,aF⟩:=hrel;rename World=>wq
  by_cases bQ:k<n
  ·have bl:=hd (Ea aJ.o HE.o (by simpa using hcb));have bJ:=hd (Sj HV.o HC.o HE.o);obtain⟨b,x,rfl,hx,hc⟩:=(HR.o.keep bl.o).at (i:=k) (by have:=HN.o;omega);obtain⟨h,bs⟩:=x;have aA:=hd hx;have aa:=ilm hx;have aW:=hd (HS.o _ aa);have bm:=hd (HI.o _ aa);have HW:=hd (fun j v hv=>hc j v hv:∀(j:Nat) (v:Value),(Ai h bs.length h.val.h h.val.ks.length).toList[j]? = some v->wq.cell? ⟨b,k*21+j,none⟩=some v);have bn:=hd (jK wq 43 (Ai h bs.length h.val.h h.val.ks.length)).wide;have aX:=hd (jK wq 43 (Ai h bs.length h.val.h h.val.ks.length));have aY:=hd ((jF [] wq).alloc (.cells (Ai h bs.length h.val.h h.val.ks.length) 43));obtain⟨a0,a1,a2,a3,a4,a5,a6,a7,-⟩:=Cf h bs.length h.val.h h.val.ks.length;have aK:=hd (fun W=>Wx h bs.length W);have aZ:=hd (fun W (hW:Ext [] w0 W) (hV':Ak W VA 1 sC vars) (bf:Nat) (hC':Blk W cb 78 #[.slice bA nb bc,v1,bf]) az=>Ys h bs vars VA vn vc W cb bA nb bc v1 bf (aW.o.keep hW) (aU.o _ _ aa).1 hV' ab.o hC' hnb az);have bo:=hd (aU.o _ _ aa).2;unfold Ez at aK aZ;have aB:=hd (show(prog.info? 43).map (·.size)=some (Ai h bs.length h.val.h h.val.ks.length).size from Dv);have b0:=hd (show zSt.size=(Ai h bs.length h.val.h h.val.ks.length).size from rfl);have b1:=hd (Cz h bs.length h.val.h h.val.ks.length);have bK:=hd (fun W s0 (hW:Blk W s0 43 (Ai h bs.length h.val.h h.val.ks.length))=>hW.wide);clear hx hc aa;generalize Ai h bs.length h.val.h h.val.ks.length=arr at *
   go_upto_region 4 with(first
    | refine Ac rfl 43 _ rfl b (k*21) rfl arr HW.o _ underlying43 rfl aB.o ?_
    | refine Ax rfl rfl 43 _ _ rfl rfl zSt (Ge _) arr rfl rfl aB.o b0.o b1.o ?_)
   simp only[PT];have aC:=hd (HE.o.alloc (.cells arr 43));have ap:=hd aX.o;have ag:=hd (an.o.1.alloc (.cells arr 43));have b2:=hd aY.o;have bL:=an.o.1.lt;have aL:=an.o.2;generalize World.alloc wq _=w1 at *;generalize bP:wq.heap.size=s1 at *;clear HW bn aX aY b0 b1;generalize hP:before+Bk (l.take k)=P at *;have HP:=hd hP;clear hP;have ac:=hd (fun(a:Int) (h0:a≠0) (hh:Ff vars nb P h bs=a)=>(Ql aA.o aF.o (by rw[HP.o,Qr (by rw[hh];exact h0),hh];exact h0)).trans (by rw[HP.o,Qr (by rw[hh];exact h0),hh]):∀(a:Int),a≠0->Ff vars nb P h bs=a->Eo nb vars before l=a);have qc:=ag.o.cell;have qf:=ag.o.frozen;have aM:=ag.o.lt;have qb:=ap.o.cell;have am:=ap.o.lt;go_cut [18] (fun s wx=>s=.bool (decide (3000<=P\/h.k=1/\8<=vn))/\wx=w1)
   case first=>
    go_wp2_with fail
    all_goals
     go_meet
     refine⟨congrArg Value.bool ?_,rfl⟩
     first|exact decide_eq_decide.2 (by omega)|exact(decide_eq_true (by omega)).symm|exact(decide_eq_false (by omega)).symm|(rw[Bool.eq_iff_iff];simp only[Bool.or_eq_true,decide_eq_true_eq];omega)|(simp_all;done)|(simp_all;omega)
   case rest=>
   obtain⟨rfl,rfl⟩:=hcut;by_cases ao:3000<=P\/h.k=1/\8<=vn
   ·have HF:=hd (ac.o 2 (by omega) (Aco (by rw[ab.o];exact ao)));rw[decide_eq_true ao];clear ao;go_wp2_with fail
    go_ret
    exact⟨P,Ae HF.o.symm,aC.o,ag.o,aL,fun h=>by rw[HF.o] at h;cases h⟩
   have aN:=hd (show ¬(3000<=P\/h.k=1/\8<=vars.length) by rw[ab.o];exact ao);have bM:P<3000:=by omega
   rw[decide_eq_false ao];clear ao;go_wp2_with fail
   refine(Ay _ _ _ _).mono ?_
   rintro r w' ⟨rfl,rfl⟩;cases hk:btw h.k 1 3
   ·have HF:=hd (ac.o 4 (by omega) (Acp aN.o hk));clear hk;go_wp2_with fail
    go_ret
    exact⟨P,Ae HF.o.symm,aC.o,ag.o,aL,fun h=>by rw[HF.o] at h;cases h⟩
   have HK:=hd hk;clear hk
   go_wp2_with (
    refine Ac rfl 43 _ rfl s1 0 rfl arr ap.o.wide _ underlying43 rfl aB.o ?_)
   refine(aK.o _).mono ?_
   rintro r w2 ⟨rfl,hE⟩;have bp:=hE.size;have ah:=hd (aC.o.trans hE.nil);have ai:=hd (ap.o.ext hE (by simp));have a8:=hd (ag.o.ext hE (by simp));have aO:=hd (b2.o.trans hE);clear hE aC ap ag b2 qc qf aM qb am bp;rename World=>w1'
   cases hu:Ga h bs.length
   case true=>
    have HF:=hd (ac.o 3 (by omega) (Acq aN.o HK.o hu));clear hu;go_wp2_with fail
    go_ret
    exact⟨P,Ae HF.o.symm,ah.o,a8.o,aL,fun h=>by rw[HF.o] at h;cases h⟩
   have HH:=hd (Acr aN.o HK.o hu (nb:=nb));clear hu aK;have qc:=a8.o.cell;have qf:=a8.o.frozen;have aM:=a8.o.lt;have bq:s1<w1'.heap.size:=ai.o.lt;have aj:Hd (Blk (w1'.setCell ⟨cb,2,none⟩ (.int .i64 (P+1))) cb 78 #[.slice bA nb bc,v1,(P+1:Nat)]):=hd (a8.o.set_' 2 (.int .i64 (P+1)) _ rfl);have ad:=hd (jL (b:=cb) (i:=2) (u:=.int .i64 (P+1)) (.inl (by simp)) ah.o);have ak:=hd (ai.o.far (p:=⟨cb,2,none⟩) (by simp;omega) (.int .i64 (P+1)));clear an aO;go_upto_region 11 with fail
   generalize World.setCell _ _ _=w2 at *;clear qc qf aM a8 ah ai bq;rename World=>w2'
   have aP:=hd (Sj HV.o HC.o ad.o);have aq:=hd (Ea aJ.o ad.o (by simpa using hcb))
   go_wp2_with (
    refine Ac rfl 43 _ rfl s1 0 rfl arr ak.o.wide _ underlying43 rfl aB.o ?_)
   refine(aZ.o _ aq.o aP.o (P+1) aj.o HK.o).mono ?_
   rintro r w2 ⟨rfl,hE⟩;have HE2':=hd (ad.o.trans hE.nil);have au:=hd (ak.o.ext hE (by simp));have aQ:=hd (aj.o.ext hE (by simp));have aR:=hd (aP.o.keep hE);clear hE ad ak aj aP aq;generalize bj:Eb vars nb h bs=ax;have aD:=hd (show Ff vars nb P h bs=ax from HH.o.trans bj);clear bj HH;by_cases aH:ax=0
   ·subst aH;have qb:=au.o.cell;have am:=au.o.lt;go_upto_if 60 with fail
    go_cut [10] (fun s wx=>∃A' c',s=.slice A' (Aw vars h).length c'/\Hd (VzP A' (Aw vars h).length c')/\Hd (Ak wx A' 1 sC (Aw vars h))/\Hd (Ext [] w2 wx))
    case first=>
     by_cases az:h.k=1
     ·have al:=hd (show Aw vars h=vars ++ [h.var] by unfold Aw;rw[ijp az]);obtain⟨i0,bC,bD,bE,bF⟩:=Wl;have bN:vars.length<=1000000:=aR.o.1;have b3:=au;have ae:=aV.o;go_wp2_with fail
      clear qb am;refine rgH 5 [(1,Cx (.slice VA vn vn)),(4,Wq h.var)] ?_ ?_
      ·repeat(first|exact Am.nil|refine Am.cons Cx.stays ?_|refine Am.cons Wq.stays ?_)
      simp only[TK];refine Ha rfl rfl ?_
      apply Exists.intro
      refine⟨fun wr nr hJ=>?_,?_⟩
      ·clear hJ;(go_simp;try go_bits)
       first|rfl|exact⟨rfl,rfl⟩
      simp only[PT];refine Acg (Cx (.slice VA vn vn)) rfl rfl ?_ ?_
      ·refine EC fun wr nr hJ hf=>?_
       refine(Agj VA vn vc wr ae.1 ae.2.1 ae.2.2).mono ?_
       rintro e w' ⟨rfl,hE⟩;exact⟨(),rfl,trivial,hE⟩
      rintro⟨⟩;simp only[PT]
      repeat(refine dE (fun wr nr hJ=>by(have qx:=(b3.o.ext hJ.1 (by simp)).cell;have bO:=(b3.o.ext hJ.1 (by simp)).lt);clear hJ;exact CL) ?_;simp only[PT])
      refine Gi (Wq h.var) rfl rfl (fun wr nr hJ hf=>?_) ?_
      ·refine⟨wr.heap.size,.cells #[.string h.var] 9,?_,(jK wr 9 #[.string h.var]).cell 0⟩
       (go_simp;try go_bits)
       first|rfl|exact⟨rfl,rfl⟩
      intro (g:Nat);simp only[PT];refine Aj (fun w9 hJ hF=>?_)
      have HG:Hd (w9.cell? ⟨g,0,none⟩=some (.string h.var)):=hd (hF 4);have br:=hd hJ.1;have bt:=hd (aR.o.keep hJ.1);have bu:=hd (Agk bt.o);clear hF hJ;have HVZ':=hd ae;clear ae
      go_wp2_with (
       refine wpList_append_grows _ rfl _ _ 133 rfl 9 i0 _ 1 16 underlying133 bC bD bE bF rfl (by decide) VA vn vn (vars.map sV) rfl ?c1 ?c2 bu.o ⟨g,0,none⟩ 1 1 [.string h.var] rfl rfl ?c3 ?c4 (by omega) ?c5 ?c6 ?_
       case c1=>intro hA;exact⟨(HVZ'.o.1 hA).1,(HVZ'.o.1 hA).1⟩
       case c2=>rw[List.length_map,ab.o];omega
       case c3=>exact Kt _ _ _ HG.o
       case c4=>intro u hu;rw[jA.1 hu];rfl
       case c5=>unfold maxLen;have:=ab.o;omega
       case c6=>have:=ab.o;omega
       intro v8 w8 ho8 hg8;have b4:=hd (And.intro ho8 hg8);clear ho8 hg8)
      go_meet
      have b5:(vars ++ [h.var]).length=vn+1:=by simp[ab.o]
      have aw:Ed w8 w9.heap.size 9 v8 ((vars ++ [h.var]).map sV):=by
       have:=b4.o.1;unfold Ed;rw[List.length_map,b5,List.map_append];exact this
      obtain⟨g8,c8,be,-,-,bh,-⟩:=Ach aw (by rw[List.length_map,b5];omega);rw[List.length_map] at be bh;subst be;exact⟨some g8,c8,by rw[al.o],by rw[al.o];exact hd (Agl bh),by rw[al.o];exact hd (Aci aw (by have:=(Ik aD.o).2.1;have:=ab.o;simp;omega)),hd (br.o.grown b4.o.2 fun q hq=>by cases hq)⟩
     ·have al:=hd (show Aw vars h=vars by unfold Aw;rw[ijn az]);have hk1':(h.k==1)=false:=by simpa using az
      go_wp2_with fail
      go_meet
      exact⟨VA,vc,by rw[al.o,ab.o],by rw[al.o,ab.o];exact aV,by rw[al.o];exact aR,hd (jF _ _)⟩
    case rest=>
     obtain⟨A',c',rfl,bG,bH,aG⟩:=hcut;rename World=>w3
     have b6:=hd (au.o.ext aG.o (by simp));have bv:=hd (aQ.o.ext aG.o (by simp));have b7:=hd (HE2'.o.trans aG.o.nil);have aS:=hd (Ea aJ.o b7.o (by simpa using hcb));clear qb am au aQ HE2' aG;have qb:=b6.o.cell;have am:=b6.o.lt;have b8:=hd aW.o.all;have af:=hd (bm.o h.A bs.length h.cap (Aw vars h) A' (Aw vars h).length c' w0 w3 cb bA nb bc v1 (P+1) b8.o.2.2.2.2.2.2.1 b8.o.2.2.2.2.2.2.2 bo.o rfl aS.o hcb bH.o rfl bG.o bv.o hnb (by omega));go_wp2_with fail
     refine af.o.mono ?_
     rintro r w4 ⟨bf,rfl,hE,hB,aT,bi⟩;have ba:=hd (b7.o.trans hE);have bb:=hd hB;have bx:=hd bi;clear hE hB bi af qb am;generalize bk:Eo nb (Aw vars h) (P+1) (St.mk h bs).body=ay at *;have bd:=hd (show Eo nb (Aw vars h) (P+1) bs=ay from bk);clear bk;by_cases aI:ay=0
     ·subst aI;have aE:=hd (show stE nb vars P (.mk h bs)=0 from(Oj aD.o).trans bd.o)
      have bz:bf=before+Bk (l.take (k+1)):=by
       rw[bx.o rfl,Ia aA.o,<-Nat.add_assoc,HP.o];simp only[Hm,St.body];omega
      go_wp2_with fail
      go_roundw
      case rel=>
       refine⟨k+1,by go_num,by omega,ba,hd ⟨by rw[<-bz];exact bb.o,by omega⟩,hd fun j e hj he=>?_⟩
       rcases Nat.lt_or_ge j k with h1|h1
       ·exact aF.o j e h1 he
       ·have:j=k:=by omega
        subst this;have:=aA.o.symm.trans he;cases this
        rw[HP.o];exact aE.o
      case measure=>simp[intOf];omega
     ·have aE:=hd (show stE nb vars P (.mk h bs)=ay from(Oj aD.o).trans bd.o);have HF:=hd (show Eo nb vars before l=ay from(Ql aA.o aF.o (by rw[HP.o,aE.o];exact aI)).trans (by rw[HP.o,aE.o]));have ha1':(ay==0)=false:=by simpa using aI
      go_wp2_with fail
      go_ret
      exact⟨bf,Ae HF.o.symm,ba.o,bb.o,aT,fun h=>absurd (HF.o.symm.trans h) aI⟩
   ·have HF:=hd (ac.o ax aH aD.o);have ha0':(ax==0)=false:=by simpa using aH
    go_wp2_with fail
    go_ret
    exact⟨P+1,Ae HF.o.symm,HE2'.o,aQ.o,by omega,fun h=>absurd (HF.o.symm.trans h) aH⟩
  ·have bB:k=n:=by omega
   subst bB;have HF:=hd (show Eo nb vars before l=0 from Ace HN.o fun i s hi hs=>aF.o i s (by omega) hs);have HT:Hd (l.take k=l):=hd (List.take_of_length_le (by have:=HN.o;omega));go_wp2_with fail
   go_ret
   refine⟨before+Bk (l.take k),Ae HF.o.symm,HE.o,an.o.1,an.o.2,fun _=>by rw[HT.o]⟩
theorem Ad4:∀s:St,Acu s.body:=Dn fun h b ih=>Vc b ih
end Go.Proofs.YtfppibmloloakaaGreatDoor
