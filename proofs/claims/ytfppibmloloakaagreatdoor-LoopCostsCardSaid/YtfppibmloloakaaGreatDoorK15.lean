import Derived.Test.YtfppibmloloakaaGreatDoorK14
import Derived.Test.YtfppibmloloakaaGreatDoorK05
namespace Go.Proofs.YtfppibmloloakaaGreatDoor
open Go.RowKit Go.Proofs.Tryz
set_option linter.all false
set_option maxHeartbeats 64000000
theorem Uz {w w':World}{A:Option Addr}{l:List ByteArray}{cb:Nat}{t:TypeId}{bA:Option Addr}{nb bc:Nat}{y:Value}(h:Ak w A 1 sC l)(hB:Blk w cb t #[.slice bA nb bc,y])(hE:Ext [cb] w w'):Ak w' A 1 sC l:=by
 obtain⟨h0,hx⟩:=h;rcases hx with hx|⟨b,rfl,hc⟩
 ·subst hx;exact Ak.nil _ _ _ _
 ·by_cases he:l=[]
  ·subst he;exact Ak.nil _ _ _ _
  ·refine Ak.ext ⟨h0,.inr ⟨b,rfl,hc⟩⟩ hE fun x hx b' o' hb'=>?_
   cases hb'
   rw[jA.1 hx];rintro rfl;obtain⟨x,hx⟩:∃x,l[0]? = some x:=⟨_,jJ (List.length_pos_iff.2 he)⟩;have h1:=hc 0 x hx 0 _ rfl;rw[hB.cell] at h1;cases h1
def sCl (B:Nat)(l:List Value):Ba:=⟨Value,.slice none 0 0,fun v=>v,fun v w=>Ed w B 9 v l⟩
def Wq (s:ByteArray):Ba:=⟨Nat,0,fun b=>.slice (some ⟨b,0,none⟩) 1 1,fun b w=>w.cell? ⟨b,0,none⟩=some (.string s)⟩
theorem sCl.stays {B:Nat}{l:List Value}:∀y w w',RH [] w w'->(sCl B l).V y w->(sCl B l).V y w':=fun y w w' h k=>Df k h.1 (by simp)
theorem Wq.stays {s:ByteArray}:∀y w w',RH [] w w'->(Wq s).V y w->(Wq s).V y w':=fun y w w' h k=>h.1.held k (jH)
def Ake (nb:Nat)(vars:List ByteArray)(before:Nat)(l:List St)(cb:Nat)(bA:Option Addr)(bc:Nat)(w:World)(e:Ending)(w':World):Prop:=
 ∃bf:Nat,e=.returned (.int .i64 (Eo nb vars before l))/\Ext [cb] w w'/\Blk w' cb 238 #[.slice bA nb bc,bf]/\bf<=3000/\(Eo nb vars before l=0->bf=before+Bk l)
def Wr (l:List St):Prop:=∀(A:Option Addr) (n cap:Nat) (vars:List ByteArray) (VA:Option Addr) (vn vc:Nat) (w0 w:World) (cb:Nat) (bA:Option Addr) (nb bc before:Nat),Ak w0 A 21 stC l->(∀s∈l,Gc w0 s)->l.length=n->Ext [] w0 w->w0.heap.size<=cb->
 Ak w VA 1 sC vars->vars.length=vn->(vn=0->VA=none/\vc=0)->Blk w cb 238 #[.slice bA nb bc,before]->nb<=1000000->before<=3000->
  Calls prog 146 #[.pointer (some cb),.slice A n cap,.slice VA vn vc] w (Ake nb vars before l cb bA bc w)
theorem Qr {nb:Nat}{vars:List ByteArray}{before:Nat}{h:SH}{b:List St}(hx:Ff vars nb before h b≠0):stE nb vars before (.mk h b)=Ff vars nb before h b:=by rw[stE,ijn hx]
theorem Oj {nb:Nat}{vars:List ByteArray}{before:Nat}{h:SH}{b:List St}(hx:Ff vars nb before h b=0):stE nb vars before (.mk h b)=Eo nb (Aw vars h) (before+1) b:=by rw[stE,ijp hx]
set_option maxRecDepth 100000 in
theorem Se (l:List St)(ih:∀s∈l,Wr s.body):Wr l:=by
 intro A n cap vars VA vn vc w0 w cb bA nb bc before hR hS hn hE0 hcb hV hvn hvz hC hnb hbf;have bm:n<=1000000:=by have:=hR.1;omega
 have HI:=hd ih;have HR:=hd hR;have HS:=hd hS;have HN:=hd hn;have aG:=hd hE0;have HV:=hd hV;have a8:=hd hvn;have aH:=hd hvz;have HC:=hd hC;clear ih hR hS hn hE0 hV hvn hvz hC;go_enter func146,ntmps146
 go_wp2_with fail
 go_loopw [14] (fun i wr=>∃k:Nat,i=.int .i64 k/\k<=n/\Hd (Ext [cb] w wr)/\Hd (Blk wr cb 238 #[.slice bA nb bc,.int .i64 (before+Bk (l.take k):Nat)]/\before+Bk (l.take k)<=3000)/\Hd (∀(j:Nat) (s:St),j<k->l[j]? = some s->stE nb vars (before+Bk (l.take j)) s=0)) (fun i _=>(n-intOf i).toNat)
 case atStart=>exact⟨0,rfl,jQ _,hd (jF _ _),hd ⟨by simpa[Bk] using HC.o,by simpa[Bk] using hbf⟩,hd fun j x hj=>absurd hj (by omega)⟩
 case round=>
  obtain⟨k,rfl,hk,HE,ac,am⟩:=hrel;rename World=>wq
  by_cases bv:k<n
  ·have aI:=hd (Ea aG.o HE.o (by simpa using hcb));have b0:=hd (Uz HV.o HC.o HE.o);obtain⟨b,x,rfl,hx,hc⟩:=(HR.o.keep aI.o).at (i:=k) (by have:=HN.o;omega);obtain⟨h,bs⟩:=x;have ai:=hd hx;have ad:=ilm hx;have aJ:=hd (HS.o _ ad);have b1:=hd (HI.o _ ad);have HW:=hd (fun j v hv=>hc j v hv:∀(j:Nat) (v:Value),(Ai h bs.length h.val.h h.val.ks.length).toList[j]? = some v->wq.cell? ⟨b,k*21+j,none⟩=some v);have aK:=hd (jK wq 43 (Ai h bs.length h.val.h h.val.ks.length)).wide;have aL:=hd (jK wq 43 (Ai h bs.length h.val.h h.val.ks.length));have ap:=hd ((jF [] wq).alloc (.cells (Ai h bs.length h.val.h h.val.ks.length) 43));obtain⟨a0,a1,a2,a3,a4,a5,a6,a7,-⟩:=Cf h bs.length h.val.h h.val.ks.length;have aq:=hd (Agb h bs vars VA vn vc (wq.alloc (.cells (Ai h bs.length h.val.h h.val.ks.length) 43)) cb bA nb bc (before+Bk (l.take k)) (aJ.o.keep (aI.o.alloc _)) (b0.o.keep ap.o) a8.o (ac.o.1.alloc _) hnb ac.o.2);unfold Ez at aq;have au:=hd (show(prog.info? 43).map (·.size)=some (Ai h bs.length h.val.h h.val.ks.length).size from Dv);have aM:=hd (show zSt.size=(Ai h bs.length h.val.h h.val.ks.length).size from rfl);have aN:=hd (Cz h bs.length h.val.h h.val.ks.length);clear hx hc ad;generalize Ai h bs.length h.val.h h.val.ks.length=arr at *
   go_wp2_with (first
    | refine Ac rfl 43 _ rfl b (k*21) rfl arr HW.o _ underlying43 rfl au.o ?_
    | refine Ax rfl rfl 43 _ _ rfl rfl zSt (Ge _) arr rfl rfl au.o aM.o aN.o ?_
    | refine Ac rfl 43 _ rfl wq.heap.size 0 rfl arr aK.o _ underlying43 rfl au.o ?_)
   refine aq.o.mono ?_
   rintro r w1 ⟨rfl,hE⟩;have bn:=hE.size;have aj:=hd ((HE.o.alloc (.cells arr 43)).trans hE.nil);have aO:=hd (aL.o.ext hE (by simp));have ae:=hd ((ac.o.1.alloc (.cells arr 43)).ext hE (by simp));have aw:=hd (ap.o.trans hE);have bo:=ac.o.1.lt;have b2:=ac.o.2;generalize bu:wq.heap.size=s1 at *;clear hE HW aK aL ap aq aM aN;generalize hP:before+Bk (l.take k)=P at *;have HP:=hd hP;clear hP;generalize aY:Ff vars nb P h bs=ax;have aa:=hd aY;clear aY;have qc:=ae.o.cell;have qf:=ae.o.frozen;have b3:=ae.o.lt;by_cases ag:ax=0
   ·subst ag;have bp:=(Ik aa.o).1;have az:=hd (ae.o.set_' 1 (.int .i64 (P+1)) _ rfl);have HE2':=hd (jL (b:=cb) (i:=1) (u:=.int .i64 (P+1)) (.inl (by simp)) aj.o);have ah:=hd (aO.o.far (p:=⟨cb,1,none⟩) (by simp;omega) (.int .i64 (P+1)));have b4:=hd (jL (b:=cb) (i:=1) (u:=.int .i64 (P+1)) (.inl (by simp)) (aw.o.nil:Ext [cb] wq w1));have az:Hd (Blk (w1.setCell ⟨cb,1,none⟩ (.int .i64 (P+1))) cb 238 #[.slice bA nb bc,(P+1:Nat)]):=hd (ae.o.set_' 1 (.int .i64 (P+1)) _ rfl);have b5:=aw.o.size;have bq:=aj.o.size;clear ac aw;go_upto_region 8 with fail
    generalize World.setCell _ _ _=w2 at *;clear qc qf b3 ae aj aO;have qb:=ah.o.cell;have ak:=ah.o.lt;have aA:=hd (Uz HV.o HC.o HE2'.o);go_upto_if 35 with fail
    go_cut [10] (fun s wx=>∃A' c',s=.slice A' (Aw vars h).length c'/\Hd ((Aw vars h).length=0->A'=none/\c'=0)/\Hd (Ak wx A' 1 sC (Aw vars h))/\Hd (Ext [] w2 wx))
    case first=>
     by_cases aF:h.k=1
     ·have af:=hd (show Aw vars h=vars ++ [h.var] by unfold Aw;rw[ijp aF]);obtain⟨i0,be,bh,bi,bj⟩:=Wl;have br:vars.length<=1000000:=aA.o.1;have aP:=ah;go_wp2_with fail
      clear qb ak;refine rgH 5 [(1,sCl w2.heap.size (vars.map sV)),(4,Wq h.var)] ?_ ?_
      ·repeat(first|exact Am.nil|refine Am.cons sCl.stays ?_|refine Am.cons Wq.stays ?_)
      simp only[TK];refine Ha rfl rfl ?_
      apply Exists.intro
      refine⟨fun wr nr hJ=>?_,?_⟩
      ·clear hJ;(go_simp;try go_bits)
       first|rfl|exact⟨rfl,rfl⟩
      simp only[PT];refine Acg (sCl w2.heap.size (vars.map sV)) rfl rfl ?_ ?_
      ·refine EC fun wr nr hJ hf=>?_
       refine(Aal VA vn vc vars wr (aA.o.keep hJ.1) a8.o aH.o).mono ?_
       rintro e w' ⟨v,rfl,hE,hO⟩;exact⟨v,rfl,Mr hO hJ.1.size,hE⟩
      intro (v:Value);simp only[PT]
      repeat(refine dE (fun wr nr hJ=>by(have qx:=(aP.o.ext hJ.1 (by simp)).cell;have bt:=(aP.o.ext hJ.1 (by simp)).lt);clear hJ;exact CL) ?_;simp only[PT])
      refine Gi (Wq h.var) rfl rfl (fun wr nr hJ hf=>?_) ?_
      ·refine⟨wr.heap.size,.cells #[.string h.var] 9,?_,(jK wr 9 #[.string h.var]).cell 0⟩
       (go_simp;try go_bits)
       first|rfl|exact⟨rfl,rfl⟩
      intro (g:Nat);simp only[PT];refine Aj (fun w9 hJ hF=>?_)
      have HO:Hd (Ed w9 w2.heap.size 9 v (vars.map sV)):=hd (hF 1);have HG:Hd (w9.cell? ⟨g,0,none⟩=some (.string h.var)):=hd (hF 4);have b6:=hd hJ.1;have b7:=hJ.1.size;clear hF hJ
      go_wp2_with (
       refine wpList_append_lies _ rfl _ _ 133 rfl w2.heap.size 9 i0 _ 1 16 underlying133 be bh bi bj rfl (by decide) _ vn (vars.map sV) rfl (by have:=HO.o;unfold Ed at this;rw[List.length_map,a8.o] at this;exact this) ⟨g,0,none⟩ 1 1 [.string h.var] rfl rfl ?c1 ?c2 (by omega) ?c3 ?c4 ?c5 _ rfl ?_
       case c1=>exact Kt _ _ _ HG.o
       case c2=>intro u hu;rw[jA.1 hu];rfl
       case c3=>unfold maxLen;have:=a8.o;omega
       case c4=>have:=a8.o;omega
       case c5=>exact b7
       intro g8 c8 w8 ho8 hg8 hi8 ha8;have aQ:=hd (And.intro ho8 hg8);clear ho8 hg8 hi8 ha8)
      go_meet
      have aB:(vars ++ [h.var]).length=vn+1:=by simp[a8.o]
      have aC:Ed w8 w2.heap.size 9 (.slice (some g8) (vn+1) c8) ((vars ++ [h.var]).map sV):=by
       have:=aQ.o.1;unfold Ed;rw[List.length_map,aB,List.map_append];exact this
      exact⟨some g8,c8,by rw[af.o,aB],by rw[af.o,aB];exact hd fun h=>by omega,by rw[af.o];exact hd (Aci aC (by have:=(Ik aa.o).2.1;have:=a8.o;simp;omega)),hd (b6.o.grown aQ.o.2 fun q hq=>.inr (Bt HO.o hq).1)⟩
     ·have af:=hd (show Aw vars h=vars by unfold Aw;rw[ijn aF]);have hk1':(h.k==1)=false:=by simpa using aF
      go_wp2_with fail
      go_meet
      exact⟨VA,vc,by rw[af.o,a8.o],by rw[af.o,a8.o];exact aH,by rw[af.o];exact aA,hd (jF _ _)⟩
    case rest=>
     obtain⟨A',c',rfl,bk,bl,an⟩:=hcut;rename World=>w3
     have aR:=hd (ah.o.ext an.o (by simp));have b8:=hd (az.o.ext an.o (by simp));have aS:=hd (HE2'.o.trans an.o.nil);have aD:=hd (Ea aG.o aS.o (by simpa using hcb));clear qb ak ah az HE2' b4 an;have qb:=aR.o.cell;have ak:=aR.o.lt;have aT:=hd aJ.o.all;have ab:=hd (b1.o h.A bs.length h.cap (Aw vars h) A' (Aw vars h).length c' w0 w3 cb bA nb bc (P+1) aT.o.2.2.2.2.2.2.1 aT.o.2.2.2.2.2.2.2 rfl aD.o hcb bl.o rfl bk.o b8.o hnb (by omega));go_wp2_with fail
     refine ab.o.mono ?_
     rintro r w4 ⟨bf,rfl,hE,hB,aE,aX⟩;have aU:=hd (aS.o.trans hE);have aV:=hd hB;have ba:=hd aX;clear hE hB aX ab qb ak;generalize aZ:Eo nb (Aw vars h) (P+1) (St.mk h bs).body=ay at *;have aW:=hd (show Eo nb (Aw vars h) (P+1) bs=ay from aZ);clear aZ;by_cases ao:ay=0
     ·subst ao;have al:=hd (show stE nb vars P (.mk h bs)=0 from(Oj aa.o).trans aW.o)
      have bb:bf=before+Bk (l.take (k+1)):=by
       rw[ba.o rfl,Ia ai.o,<-Nat.add_assoc,HP.o];simp only[Hm,St.body];omega
      go_wp2_with fail
      go_roundw
      case rel=>
       refine⟨k+1,by go_num,by omega,aU,hd ⟨by rw[<-bb];exact aV.o,by omega⟩,hd fun j e hj he=>?_⟩
       rcases Nat.lt_or_ge j k with h1|h1
       ·exact am.o j e h1 he
       ·have:j=k:=by omega
        subst this;have:=ai.o.symm.trans he;cases this
        rw[HP.o];exact al.o
      case measure=>simp[intOf];omega
     ·have al:=hd (show stE nb vars P (.mk h bs)=ay from(Oj aa.o).trans aW.o);have HF:=hd (show Eo nb vars before l=ay from(Ql ai.o am.o (by rw[HP.o,al.o];exact ao)).trans (by rw[HP.o,al.o]));have ha1':(ay==0)=false:=by simpa using ao
      go_wp2_with fail
      go_ret
      exact⟨bf,Ae HF.o.symm,aU.o,aV.o,aE,fun h=>absurd (HF.o.symm.trans h) ao⟩
   ·have HF:=hd (show Eo nb vars before l=ax from(Ql ai.o am.o (by rw[HP.o,Qr (by rw[aa.o];exact ag),aa.o];exact ag)).trans (by rw[HP.o,Qr (by rw[aa.o];exact ag),aa.o]));have ha0':(ax==0)=false:=by simpa using ag
    go_wp2_with fail
    go_ret
    exact⟨P,Ae HF.o.symm,aj.o,ae.o,b2,fun h=>absurd (HF.o.symm.trans h) ag⟩
  ·have bd:k=n:=by omega
   subst bd;have HF:=hd (show Eo nb vars before l=0 from Ace HN.o fun i s hi hs=>am.o i s (by omega) hs);have HT:Hd (l.take k=l):=hd (List.take_of_length_le (by have:=HN.o;omega));go_wp2_with fail
   go_ret
   refine⟨before+Bk (l.take k),Ae HF.o.symm,HE.o,ac.o.1,ac.o.2,fun _=>by rw[HT.o]⟩
theorem Adz:∀s:St,Wr s.body:=Dn fun h b ih=>Se b ih
structure Pg where
 A:Option Addr
 cap:Nat
 bs:List Bf
 B:Option Addr
 bcap:Nat
 body:List St
def pgV (p:Pg):Value:=.agg #[.slice p.A p.bs.length p.cap,.slice p.B p.body.length p.bcap]
structure Lz (w:World)(p:Pg):Prop where
 bufs:Ak w p.A 4 bfC p.bs
 each:∀b∈p.bs,Aab w b
 cap:p.bs.length<=p.cap/\p.cap<=9223372036854775807
 body:Ak w p.B 21 stC p.body
 stmt:∀s∈p.body,Gc w s
theorem Lz.keep {w w':World}{p:Pg}(h:Lz w p)(hE:Ext [] w w'):Lz w' p:=⟨h.bufs.keep hE,fun b hb=>(h.each b hb).keep hE,h.cap,h.body.keep hE,fun s hs=>(h.stmt s hs).keep hE⟩
theorem Ad0 (l:List St):Wr l:=Se l fun s _=>Adz s
set_option maxRecDepth 100000 in
theorem Aay (p:Pg)(w:World)(h:Lz w p):Calls prog 97 #[pgV p] w (My (Du p.bs p.body) w):=by
 have HP:=hd h;have HV:Hd (Du p.bs p.body=if Dy p.bs=0 then Eo p.bs.length [] 0 p.body else Dy p.bs):=hd rfl;have ah:=h.bufs.1;obtain⟨A,cap,bs,B,bcap,body⟩:=p;dsimp only[pgV] at *;clear h;have a7:=hd ((jF [] w).alloc (.cells #[.slice A bs.length cap,.slice B body.length bcap] 29));have ab:=hd (jK w 29 #[.slice A bs.length cap,.slice B body.length bcap]);have ac:=hd (fun W=>Ym A bs.length cap bs W);have ad:=hd (Ad0 body B body.length bcap [] none 0 0);generalize Du bs body=R at *;generalize hn:bs.length=n at *;have HN:=hd hn;clear hn;generalize Dy bs=bx at *;go_enter func97,ntmps97
 go_wp2_with fail
 generalize World.alloc w _=w1 at *;generalize hs:w.heap.size=s at *;have hP:=HP.o.keep a7.o;refine(ac.o w1 hP.bufs hP.each (by first|rfl|trivial) (by have:=hP.cap;simp only at this;rw[HN.o] at this;exact this)).mono ?_
 rintro r w2 ⟨rfl,hE⟩;have a2:=hd (a7.o.trans hE);have a8:=hd (ab.o.ext hE (by simp));clear hE hP;have q2:=a8.o.cell;have ql:=a8.o.lt;by_cases a6:bx=0
 ·subst a6;have ae:=hd (HV.o.trans (ijp rfl));have aa:=hd (a2.o.alloc (.cells #[.slice A n cap,(0:Int)] 238));have af:=hd (jK w2 238 #[.slice A n cap,(0:Int)]);have ai:=a2.o.size;have hP:=HP.o;have a1:=hd (ad.o w (w2.alloc (.cells #[.slice A n cap,(0:Int)] 238)) w2.heap.size A n cap 0 hP.body hP.stmt (by first|rfl|trivial) aa.o (by omega) (Ak.nil _ _ _ _) rfl (by first|exact fun _=>⟨rfl,rfl⟩|simp) af.o (by omega) (by omega));clear hP;go_wp2_with fail
  refine a1.o.mono ?_
  rintro r w4 ⟨bf,rfl,hE,-,-,-⟩;have ag:=hd (aa.o.step hE (fun x hx=>.inr (by rw[jA.1 hx];omega)));clear hE;go_wp2_with fail
  go_ret
  exact⟨Ae ae.o.symm,ag.o⟩
 ·have HF:=hd (HV.o.trans (ijn a6));have hb':(bx==0)=false:=by simpa using a6
  go_wp2_with fail
  go_ret
  exact⟨Ae HF.o.symm,a2.o⟩
end Go.Proofs.YtfppibmloloakaaGreatDoor
