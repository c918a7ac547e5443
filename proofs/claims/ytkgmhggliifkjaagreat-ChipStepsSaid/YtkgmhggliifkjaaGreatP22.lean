import Derived.Test.YtkgmhggliifkjaaGreatP20
import Derived.Test.YtkgmhggliifkjaaGreatP21
import Derived.Test.YtkgmhggliifkjaaGreatP28
namespace Go.Proofs.YtkgmhggliifkjaaGreat
open Go.RowKit Go.Proofs.Tryz
set_option linter.all false
set_option maxHeartbeats 8000000
set_option maxRecDepth 100000
theorem Aad {w:World}{A:CA}{m:Mc}{xs:List Ins}{S:MS}(h:Ag w A m xs S)(hw:WfM m S)(xo xk xd xa xb xc xp xn xm:Int)(hv:VI m ⟨xo,xk,xd,xa,xb,xc,xp,xn,xm⟩)(hb0:Cg m S (Ae m S ⟨xo,xk,xd,xa,xb,xc,xp,xn,xm⟩) (Ab m S ⟨xo,xk,xd,xa,xb,xc,xp,xn,xm⟩)=0) :
  Calls prog 45 #[.pointer (some A.c),.agg #[xo,xk,xd,xa,xb,xc,xp,xn,xm]] w (Og A m xs (Jy m S ⟨xo,xk,xd,xa,xb,xc,xp,xn,xm⟩) w):=by
 by_cases h11:xo=11
 ·subst h11;have hd0:=hv.d;have ha0:=hv.a;have hbb:=hv.b;dsimp only at hd0 ha0 hbb;obtain⟨d,rfl⟩:∃n:Nat,xd=n:=⟨xd.toNat,by omega⟩;obtain⟨a,rfl⟩:∃n:Nat,xa=n:=⟨xa.toNat,by omega⟩;obtain⟨b,rfl⟩:∃n:Nat,xb=n:=⟨xb.toNat,by omega⟩;rw[Eu (show ¬(11:Int)=18 by decide)];exact(Adj h hw xk xc xp xn xm d a b hv hb0).mono (fun e w' hq=>hq.doneF)
 ·exact Aac h hw xo xk xd xa xb xc xp xn xm hv hb0 h11
theorem Xk {w:World}{A:CA}{m:Mc}{xs:List Ins}{S:MS}(h:Ag w A m xs S)(hok:OkS m xs S)(hce:Bh m 0 xs=0){c:Int}(hcb:Fi c S)(hcl:c<=500000000000)(hl:xs.length<=100000) :
  Calls prog 17 #[.pointer (some A.c)] w (Afg A m xs (Cf m xs S) w):=by
 by_cases hov:(S.over||S.fault.isSome)=true
 ·exact Adc h hov
 have hov':(S.over||S.fault.isSome)=false:=by simpa using hov
 rw[Bool.or_eq_false_iff] at hov'
 have hft:S.fault=none:=by
  cases hf:S.fault with
  | none=>rfl
  | some t=>rw[hf] at hov';cases hov'.2
 have hpc:=hok.live hov'.1;obtain⟨x,hx⟩:∃x,xs[S.pc]? = some x:=⟨_,List.getElem?_eq_getElem hpc⟩;have hgd:xs.getD S.pc zI=x:=by rw[List.getD_eq_getElem?_getD,hx];rfl
 have hv:=Er h.kd.ok hce x (ilm hx);have hss:Cf m xs S=Gn m xs S x:=by unfold Cf;rw[ijn hov,hgd]
 rw[hss];obtain⟨xo,xk,xd,xa,xb,xc,xp,xn,xm⟩:=x;have hA:=h.rekd (fun b=>if b<w.heap.size then A.kd b else 40) (fun b hb=>ijp hb);refine(Adg (A:={A with kd:=fun b=>if b<w.heap.size then A.kd b else 40 }) hA hok.wf hov'.1 hft hl xo xk xd xa xb xc xp xn xm hx hv (fun b hb=>by show 40<=(if b<w.heap.size then A.kd b else 40);rw[ijn (by omega)];exact Nat.le_refl _) hok hce hcb hcl (fun W B T hB hT hb=>Aad hB hT xo xk xd xa xb xc xp xn xm hv hb)).mono ?_
 rintro e w' ⟨he,A',hE,hC,hc,hk⟩;exact⟨he,A',(Aj.refl A w).re hE (fun b hb=>ijp hb),hC,hc,fun b hb=>(hk b hb).trans (ijp hb)⟩
theorem Ve (m:Mc)(A:Option Addr)(c:Nat)(xs:List Ins)(B:Option Addr)(d:Nat)(main:List Int)(w:World)(h:RdC w A xs)(hl:xs.length<=100000)(hm:RdI w B main)(hml:main.length<=600000) :
  Calls prog 35 #[.agg m.cells.toArray,.slice A xs.length c,.slice B main.length d] w fun e w'=>e=.returned (.int .i64 (Di m xs main))/\Ext [] w w':=by
 have hsay:Di m xs main=if Cv m xs≠0 then Cv m xs else Jf m main:=rfl
 have hsm:Jf m main=if(main.length:Int)≠m.main then 3 else if main.any (fun x=>!inR x (-2147483648) 2147483647) then 9 else 0:=rfl
 have HSM:=hd hsm
 have hok0:Cv m xs=0->1<=m.main:=fun h0=>by
  have:m.okB=true:=by
   cases hk:m.okB with
   | true=>rfl
   | false=>unfold Cv at h0;rw[ijp hk] at h0;cases h0
  have:=Bc this;omega
 have HOK:=hd hok0;have HH:=hd h;have HM:=hd hm;have HK:=hd (fun W (hW:Ext [] w W)=>Tt m A c xs W (h.ext hW (by simp)) hl);obtain⟨k,hk⟩:∃k,k=Cv m xs:=⟨_,rfl⟩;rw[<-hk] at hsay HK hok0;have HKE:=hd hk;have HS:=hd hsay;obtain⟨m0,m1,m2,m3,m4⟩:=m;show Calls prog 35 #[.agg #[m0,m1,m2,m3,m4],.slice A xs.length c,.slice B main.length d] w _
 have HB:=hd (Blk.new w 27 #[m0,m1,m2,m3,m4]);have HE0:=hd ((Ext.refl [] w).alloc (.cells #[m0,m1,m2,m3,m4] 27));clear h hm hok0 hk hsay hsm;go_enter func35,ntmps35
 go_wp2_with fail
 refine(HK.o _ HE0.o).mono ?_
 rintro e w1 ⟨rfl,hE1⟩;have HE1:=hd (HE0.o.trans hE1);have HB1:=hd (HB.o.ext hE1 (by simp));have hbc:=HB1.o.cell;have hbl:=HB1.o.lt;clear hE1;by_cases hk0:k=0
 ·have hkn:(k != 0)=false:=by simp[hk0]
  have HS2:Hd (Di ⟨m0,m1,m2,m3,m4⟩ xs main=Jf ⟨m0,m1,m2,m3,m4⟩ main):=hd (by rw[HS.o,ijn (by omega)]);by_cases hn:(main.length:Int)=m0
  ·have hnn:((main.length:Int) != m0)=false:=by simp[hn]
   have hm1:1<=m0:=HOK.o (by rw[<-HKE.o];exact hk0)
   obtain⟨b,o,rfl,hc⟩:∃b o,B=some ⟨b,o,none⟩/\∀i x,main[i]? = some x->w.cell? ⟨b,o+i,none⟩=some (.int .i64 x):=by
    rcases HM.o with h|h
    ·rw[h] at hn;simp at hn;omega
    ·exact h
   have HNA:=hd (show Ek w b o main from hc);have hb:b<w.heap.size:=World.block_lt_of_cell? w _ (hc 0 _ (List.getElem?_eq_getElem (by omega)));have HBL:=hd hb;have HN:=hd hn;clear hc hb hn hk0;go_wp2_with fail
   refine(Rc _ Xf b o d main _ (HNA.o.ext HE1.o (by simp)) (by omega) (nl HBL.o HE1.o.size)).mono ?_
   rintro e w2 ⟨rfl,hE2⟩;have HE2:=hd (HE1.o.trans hE2);clear hE2 hbc hbl;obtain⟨an,han⟩:∃an,an=main.any (fun x=>!inR x (-2147483648) 2147483647):=⟨_,rfl⟩;rw[<-han];have HAN:=hd han;clear han;cases an
   ·go_wp2_with fail
    go_ret
    exact⟨Ai (by rw[HS2.o,HSM.o,ijn (fun h=>h HN.o),<-HAN.o];rfl),HE2.o⟩
   ·go_wp2_with fail
    go_ret
    exact⟨Ai (by rw[HS2.o,HSM.o,ijn (fun h=>h HN.o),<-HAN.o];rfl),HE2.o⟩
  ·have hnn:((main.length:Int) != m0)=true:=by simp[hn]
   have HN:=hd hn;clear hk0 hn;go_wp2_with fail
   go_ret
   exact⟨Ai (by rw[HS2.o,HSM.o,ijp HN.o]),HE1.o⟩
 ·have hkn:(k != 0)=true:=by simp[hk0]
  have HS2:Hd (Di ⟨m0,m1,m2,m3,m4⟩ xs main=k):=hd (by rw[HS.o,ijp hk0]);clear hk0;go_wp2_with fail
  go_ret
  exact⟨Ai HS2.o.symm,HE1.o⟩
def NewP (m:Mc)(xs:List Ins)(main:List Int)(w:World)(e:Ending)(w':World):Prop:=
 (Di m xs main≠0/\e=.returned (.tuple #[.pointer none,(Di m xs main)])/\Ext [] w w')\/
 (Di m xs main=0/\∃A,e=.returned (.tuple #[.pointer (some A.c),(0:Int)])/\Ext [] w w'/\Ag w' A m xs (MS.new main xs.length)/\∀b,A.kd b<40->w.heap.size<=b)
theorem Abt (m:Mc)(A:Option Addr)(c:Nat)(xs:List Ins)(B:Option Addr)(d:Nat)(main:List Int)(w:World)(h:RdC w A xs)(hl:xs.length<=100000)(hm:RdI w B main)(hml:main.length<=600000) :
  Calls prog 14 #[.agg m.cells.toArray,.slice A xs.length c,.slice B main.length d] w (NewP m xs main w):=by
 have HP:=hd (fun W (hW:Ext [] w W)=>Ve m A c xs B d main W (h.ext hW (by simp)) hl (hm.ext hW (by simp)) hml)
 have HST:=hd (fun(h0:Di m xs main=0) W (hW:Ext [] w W)=>by
  obtain⟨h1,h2,h3⟩:=Ly h0;exact Xp m (Fg h1).1 A c xs B d main W (h.ext hW (by simp)) hl (Fg h1).2.1 (hm.ext hW (by simp)) h2)
 obtain⟨k,hk⟩:∃k,k=Di m xs main:=⟨_,rfl⟩;rw[<-hk] at HP HST;have HK:=hd hk;generalize hQ:NewP m xs main w=Q at *;have HQ:=hd hQ;obtain⟨m0,m1,m2,m3,m4⟩:=m;show Calls prog 14 #[.agg #[m0,m1,m2,m3,m4],.slice A xs.length c,.slice B main.length d] w _
 have HB:=hd (Blk.new w 27 #[m0,m1,m2,m3,m4]);have HE0:=hd ((Ext.refl [] w).alloc (.cells #[m0,m1,m2,m3,m4] 27));clear h hm hk hQ;go_enter func14,ntmps14
 go_wp2_with fail
 refine(HP.o _ HE0.o).mono ?_
 rintro e w1 ⟨rfl,hE1⟩;have HE1:=hd (HE0.o.trans hE1);have HB1:=hd (HB.o.ext hE1 (by simp));have hbc:=HB1.o.cell;have hbl:=HB1.o.lt;clear hE1;by_cases hk0:k=0
 ·have hkn:(k != 0)=false:=by simp[hk0]
  have HK0:=hd hk0;clear hk0;go_wp2_with fail
  refine(HST.o HK0.o _ HE1.o).mono ?_
  rintro e w2 ⟨A2,rfl,hE2,hC2,hf2⟩;have HR:=hd (And.intro hE2 (And.intro hC2 hf2));clear hE2 hC2 hf2 hbc hbl;go_wp2_with fail
  (try go_ret2)
  rw[<-HQ.o];exact .inr ⟨by rw[<-HK.o];exact HK0.o,A2,rfl,HE1.o.trans HR.o.1,HR.o.2.1,fun b hb=>nt HE1.o.size (HR.o.2.2 b hb)⟩
 ·have hkn:(k != 0)=true:=by simp[hk0]
  have HK0:=hd hk0;clear hk0;go_wp2_with fail
  (try go_ret2)
  rw[<-HQ.o];exact .inl ⟨by rw[<-HK.o];exact HK0.o,by rw[<-HK.o];rfl,HE1.o⟩
def FinP (m:Mc)(xs:List Ins)(main:List Int)(w:World)(e:Ending)(w':World):Prop:=
 (Di m xs main≠0/\e=.returned (.tuple #[.pointer none,(Di m xs main)])/\Ext [] w w')\/
 (Di m xs main=0/\∃A,e=.returned (.tuple #[.pointer (some A.c),(0:Int)])/\Ext [] w w'/\Ag w' A m xs (Ew m xs main)/\w.heap.size<=A.mb)
theorem Afl {A:CA}{m:Mc}{xs:List Ins}{S:MS}{w w2 wr:World}(hE:Ext [] w w2)(hf:∀b,A.kd b<40->w.heap.size<=b)(h:Oh A m xs S w2 wr):Ext [] w wr:=by
 obtain⟨A',⟨T,h1,h2⟩,_⟩:=h;exact hE.step h1 (fun x hx=>.inr (hf x (h2 x hx)))
theorem On (m:Mc)(A:Option Addr)(c:Nat)(xs:List Ins)(B:Option Addr)(d:Nat)(main:List Int)(w:World)(h:RdC w A xs)(hl:xs.length<=100000)(hm:RdI w B main)(hml:main.length<=600000) :
  Calls prog 27 #[.agg m.cells.toArray,.slice A xs.length c,.slice B main.length d] w (FinP m xs main w):=by
 have HN:=hd (fun W (hW:Ext [] w W)=>Abt m A c xs B d main W (h.ext hW (by simp)) hl (hm.ext hW (by simp)) hml);generalize hQ:FinP m xs main w=Q at *;have HQ:=hd hQ;obtain⟨m',hm'⟩:∃m',m'=m:=⟨_,rfl⟩;have HM:=hd hm';obtain⟨m0,m1,m2,m3,m4⟩:=m;show Calls prog 27 #[.agg #[m0,m1,m2,m3,m4],.slice A xs.length c,.slice B main.length d] w _
 have HB:=hd (Blk.new w 27 #[m0,m1,m2,m3,m4]);have HE0:=hd ((Ext.refl [] w).alloc (.cells #[m0,m1,m2,m3,m4] 27));clear h hm hQ hm';go_enter func27,ntmps27
 go_wp2_with fail
 refine(HN.o _ HE0.o).mono ?_
 rw[<-HM.o];rintro e w2 (⟨hp,rfl,hE⟩|⟨hp,A0,rfl,hE,hC,hf⟩)
 ·obtain⟨k,hk⟩:∃k,k=Di m' xs main:=⟨_,rfl⟩;rw[<-hk] at hp⊢;have hkn:(k != 0)=true:=by simp[hp]
  have HP:=hd (And.intro hk (And.intro hp (HE0.o.trans hE)));clear hk hp hE;go_wp2_with fail
  (try go_ret2)
  rw[<-HQ.o,<-HM.o];exact .inl ⟨by rw[<-HP.o.1];exact HP.o.2.1,by rw[<-HP.o.1];rfl,HP.o.2.2⟩
 ·have HE:=hd (HE0.o.trans hE);have HP:=hd hp;obtain⟨h1,h2,h3⟩:=Ly hp;obtain⟨k1,k2,k3⟩:=Fg h1;have HF:=hd hf;have HX:=hd (And.intro k1 (And.intro k2 (AtX.start k1 k2 k3 h3)));have HC:=hd hC;have HF0:Hd (∀b,A0.kd b<40->w.heap.size<=b):=hd (fun b hb=>nt HE0.o.size (hf b hb));clear hp hE hC hf h1 h2 h3 k1 k2 k3;go_wp2_with fail
  go_loopg [] 40000001 (fun n wr=>∃S,Hd (Oh A0 m' xs S w2 wr/\AtX m' xs (Ew m' xs main) n S))
  case atStart=>exact⟨_,hd ⟨Oh.of (Aj.refl _ _) HC.o,HX.o.2.2⟩⟩
  case round=>
   obtain⟨S,hS⟩:=hrel;obtain⟨gk',hgk⟩:=hS.o.2.pos HX.o.1 HX.o.2.1;subst hgk;obtain⟨A1,hE1,hC1,hc1,hk1⟩:=hS.o.1;have hcap:=hS.o.2.cap;have hst:=Xk hC1 hS.o.2.ok HX.o.2.1 hS.o.2.cyc (by omega) hl;rw[hc1] at hst;have HST:=hd hst;have HK1:=hd hk1;have HC1:=hd hc1;have HE1:=hd hE1;clear hE1 hC1 hc1 hk1 hst hcap;go_wp2_with fail
   refine HST.o.mono ?_
   rintro e w3 ⟨rfl,A2,hE2,hC2,hc2,hk2⟩;have HG:=hd (show Oh A0 m' xs (Cf m' xs S).2 w2 w3 from Oh.trans HE1.o HC1.o HK1.o ⟨A2,hE2,hC2,hc2,hk2⟩);clear hE2 hC2 hc2 hk2;obtain⟨b,hb⟩:∃b,b=(Cf m' xs S).1:=⟨_,rfl⟩;rw[<-hb];have HBB:=hd hb;clear hb;cases b
   ·go_wp2_with fail
    (try go_ret2)
    rw[<-HQ.o,<-HM.o];have hfin:=hS.o.2.off HBB.o.symm;have hg:=HG.o;rw[hfin] at hg;obtain⟨A3,q1,q2,q3,q4⟩:=id hg;refine .inr ⟨HP.o,A3,by rw[q3];rfl,Afl HE.o HF0.o hg,q2,?_⟩
    rcases Nat.lt_or_ge A3.mb w2.heap.size with hl|hl
    ·exact HF0.o _ (by rw[<-q4 _ hl,q2.kd.km];decide)
    ·exact nt HE.o.size hl
   ·go_wp2_with fail
    go_roundg gk'
    case rel=>exact⟨_,hd ⟨HG.o,hS.o.2.on HX.o.1 HX.o.2.1 HBB.o.symm⟩⟩
    case measure=>omega
end Go.Proofs.YtkgmhggliifkjaaGreat
