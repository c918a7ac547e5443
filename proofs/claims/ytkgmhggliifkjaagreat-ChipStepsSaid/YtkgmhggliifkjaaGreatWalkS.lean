import Derived.Test.YtkgmhggliifkjaaGreatP55
namespace Go.Proofs.YtkgmhggliifkjaaGreat
open Go.RowKit Go.Proofs.Tryz
set_option linter.all false
set_option maxHeartbeats 8000000
set_option maxRecDepth 100000
attribute [local irreducible] Ax
def Ahq (g bm c cR:Nat)(w:World)(m:Mc)(xs:List Ins)(k:Nat)(wr:World):Prop:=
 ∃S A R,Tm wr A R m xs S g bm/\OkS m xs S/\Zs S/\Fi (5021*(k:Nat)) S/\A.c=c/\R.A.c=cR/\Stm wr g g ((301-k)*100)/\Blk wr bm 27 m.cells.toArray/\Ext [] w wr
theorem Un {w w':World}{K:CA}{g bm:Nat}(hE:Aj K w w')(hlo:∀b,K.kd b<40->g<=b)(hg:40<=K.kd g)(hb:40<=K.kd bm):∃T,Ext T w w'/\g∉T/\bm∉T/\∀x∈T,g<=x:=by
 obtain⟨T,h1,h2⟩:=hE;exact⟨T,h1,fun hm=>by have:=h2 _ hm;omega,fun hm=>by have:=h2 _ hm;omega,fun x hx=>hlo x (h2 x hx)⟩
theorem Abg {g bm:Nat}{w w1 w3 w4 w6 w7:World}{m:Mc}{xs:List Ins}{ws:List Int}{A:CA}{R:RA}{A2:Option Addr}(hg:w.heap.size=g)(hbm:w1.heap.size=bm)(hgb:g<bm)(h13:bm<w3.heap.size)(hE3:Ext [] w w3)(hE4:Ext [] w3 w4)(hE6:Ext [] w4 w6)(hE7:Ext [] w6 w7)
  (hC:Ag w4 A m xs (MS.new ws xs.length)) (hkA:∀b,A.kd b<40->w3.heap.size<=b) (hR:Ak w7 R m xs (MS.new ws xs.length)) (hkR:∀b,R.A.kd b<40->w6.heap.size<=b\/(xs≠[]/\∃a,A2=some a/\a.block=b))
  (hA2:∀a,A2=some a->g+1<=a.block) (hA3:xs≠[]->∀a,A2=some a->a.block<bm) (hok:OkS m xs (MS.new ws xs.length)) (hS:Stm w3 g g 36000) (hM:Blk w6 bm 27 m.cells.toArray):Ahq g bm A.c R.A.c w m xs 0 w7:=by
 have s4:=hE4.size;have s6:=hE6.size;have s7:=hE7.size;have s3:=hE3.size
 have kA:∀b,(if b<w4.heap.size then A.kd b else 40)<40->b<w4.heap.size/\w3.heap.size<=b:=fun b hb=>by
  by_cases h:b<w4.heap.size
  ·rw[ijp h] at hb;exact⟨h,hkA b hb⟩
  ·rw[ijn h] at hb;omega
 have kR:∀b,(if b<w7.heap.size then R.A.kd b else 40)<40->w6.heap.size<=b\/(g+1<=b/\b<bm):=fun b hb=>by
  by_cases h:b<w7.heap.size
  ·rw[ijp h] at hb;rcases hkR b hb with h1|⟨hx,a,ha,he⟩
   ·exact .inl h1
   ·have h1:=hA2 a ha;have h2:=hA3 hx a ha;exact .inr ⟨by omega,by omega⟩
  ·rw[ijn h] at hb;omega
 have nA:∀b,¬(w3.heap.size<=b/\b<w4.heap.size)->40<=(if b<w4.heap.size then A.kd b else 40):=fun b hb=>by
  rcases Nat.lt_or_ge (if b<w4.heap.size then A.kd b else 40) 40 with h|h
  ·have:=kA b h;omega
  ·exact h
 have nR:∀b,b<w6.heap.size->¬(g+1<=b/\b<bm)->40<=(if b<w7.heap.size then R.A.kd b else 40):=fun b hb hn=>by
  rcases Nat.lt_or_ge (if b<w7.heap.size then R.A.kd b else 40) 40 with h|h
  ·rcases kR b h with h1|h1
   ·omega
   ·exact absurd h1 hn
  ·exact h
 refine⟨MS.new ws xs.length,{A with kd:=fun b=>if b<w4.heap.size then A.kd b else 40 },{R with A:={R.A with kd:=fun b=>if b<w7.heap.size then R.A.kd b else 40 } },⟨⟨((hC.rekd _ (fun b hb=>ijp hb)).nil hE6).nil hE7,hR.rekd _ (fun b hb=>ijp hb),nA g (by omega),nR g (by omega) (by omega)⟩,fun b hb=>?_,fun b hb=>⟨nA b (by omega),?_⟩,fun b hb=>?_,by omega,by omega,nA bm (by omega),nR bm (by omega) (by omega)⟩,hok,Zs.new _ _,⟨Int.le_refl _,by show(0:Int)<=_;omega,fun d t h=>by cases h⟩,rfl,rfl,(hS.ext (hE4.trans (hE6.trans hE7)) (by simp) (by simp)).less (by omega),hM.ext hE7 (by simp),hE3.trans (hE4.trans (hE6.trans hE7))⟩
 ·have:=kA b hb;exact nR b (by omega) (by omega)
 ·show 40<=(if b<w7.heap.size then R.A.kd b else 40)
  rw[ijn (by omega)];exact Nat.le_refl _
 ·rcases hb with hb|hb
  ·have:=kA b hb;omega
  ·rcases kR b hb with h|h<;>omega
theorem chipSteps_any (A:Option Addr)(len cap:Nat)(w:World)(hlen:len<=9223372036854775807)(hA:0<len->∃b o,A=some ⟨b,o,none⟩/\b<w.heap.size/\∀i,i<len->∃x,w.cell? ⟨b,o+i,none⟩=some (.int .i64 x)) :
  Calls prog 4 #[.slice A len cap] w fun e w'=>e=.returned (.bool true)/\Ext [] w w':=by
 have HST:=hd (Sb A len cap w hlen hA);clear hA;go_enter func4,ntmps4
 go_wp2_with fail
 refine(Ul w.heap.size w.heap.size 40000 _ (HST.o.less (by omega))).mono ?_
 rintro e w1 ⟨⟨m0,m1,m2,m3,m4⟩,v,len1,rfl,hC,hl1,hE,hS⟩;obtain⟨A2,cap2,xs,rfl,hx,hr,hb⟩:=hC;have HE1:Hd (Ext [] w w1):=hd (((Ext.refl [] w).alloc _).step hE (fun i hi=>.inr (by rw[ms hi];exact Nat.le_refl _)));have HR1:=hd hr;have HS1:=hd hS;have hg1:w.heap.size<w1.heap.size:=hS.lt;have HBA:Hd (∀a,A2=some a->w.heap.size+1<=a.block):=hd (fun a ha=>by have:=hb a ha;simpa using this);subst hx;clear hE hS hr hb;simp only[Mc.cells];have HM2:=hd (Blk.new w1 27 #[m0,m1,m2,m3,m4]);have HE2:=hd ((Ext.refl [] w1).alloc (.cells #[m0,m1,m2,m3,m4] 27));have HS2:=hd (HS1.o.alloc (.cells #[m0,m1,m2,m3,m4] 27));go_upto_region 3 with fail
 generalize w1.alloc (.cells #[m0,m1,m2,m3,m4] 27)=w2 at *;have HEW2:Hd (Ext [] w w2):=hd (HE1.o.trans HE2.o);have qm:=HM2.o.cell;have qml:=HM2.o.lt;go_wp2_with fail
 refine(Uk w.heap.size w.heap.size 36000 ⟨m0,m1,m2,m3,m4⟩ _ (HS2.o.less (by omega))).mono ?_
 rintro e w3 ⟨A3,cap3,ws,rfl,hwl,hri,hE3,hS3,hA3⟩;have HM3:=hd (HM2.o.ext hE3 (by simp;omega));have HEW:Hd (Ext [] w w3):=hd (HEW2.o.step hE3 (fun i hi=>.inr (by rw[ms hi];exact Nat.le_refl _)));have HRW:Hd (∀W,Ext [] w3 W->RdC W A2 xs):=hd fun W hW=>(HR1.o.ext (HE2.o.nil.trans hE3) (fun a ha hm=>by have:=HBA.o a ha;rw[ms hm] at this;omega)).ext hW (by simp)
 have HIW:Hd (∀W,Ext [] w3 W->RdI W A3 ws):=hd fun W hW=>hri.ext hW (by simp)
 have HCF:=hd (fun W (hW:Ext [] w3 W)=>Ng ⟨m0,m1,m2,m3,m4⟩ A2 cap2 xs W (HRW.o W hW) (by omega));have hlow:w3.heap.size<=w3.heap.size:=Nat.le_refl _;have HA2L:Hd (xs≠[]->∀a,A2=some a->a.block<w3.heap.size):=hd fun h0 a ha=>(HRW.o w3 er).blk_lt a ha h0
 have HS3:=hd hS3;have HXL:Hd (xs.length<=60000):=hd hl1;have HBML:=hd (And.intro HM2.o.lt hg1);have HE23:=hd hE3.size;clear qm qml hri hE3 hS3 hA3;have qm:=HM3.o.cell;have qml:=HM3.o.lt;obtain⟨kp,hkp⟩:∃k,k=Di ⟨m0,m1,m2,m3,m4⟩ xs ws:=⟨_,rfl⟩;have HNW:=hd (fun W (hW:Ext [] w3 W)=>Abt ⟨m0,m1,m2,m3,m4⟩ A2 cap2 xs A3 cap3 ws W (HRW.o W hW) (by omega) (HIW.o W hW) (by omega));have HKP:=hd hkp;clear hkp;go_wp2_with fail
 refine(HNW.o _ er).mono ?_
 rintro e w4 (⟨hp,rfl,hE4⟩|⟨hp,A4,rfl,hE4,hC4,hk4⟩)
 ·have hks:kp=if Cv ⟨m0,m1,m2,m3,m4⟩ xs≠0 then Cv ⟨m0,m1,m2,m3,m4⟩ xs else Jf ⟨m0,m1,m2,m3,m4⟩ ws:=HKP.o
  rw[<-HKP.o] at hp⊢;have hkb:(kp != 0)=true:=by simpa using hp
  have HKB:=hd hkb;have HKS:=hd hks;have HE4:=hd hE4;have HM4:=hd (HM3.o.ext hE4 (by simp));clear qm qml hE4 hkb hks hp;have qm:=HM4.o.cell;have qml:=HM4.o.lt;go_wp2_with fail
  refine(HCF.o _ HE4.o).mono ?_
  rintro e w7 ⟨rfl,hE7⟩;have HE7:=hd (HE4.o.trans hE7);have HM7:=hd (HM4.o.ext hE7 (by simp));clear qm qml hE7;obtain⟨cv,hcv⟩:∃cv,cv=Cv ⟨m0,m1,m2,m3,m4⟩ xs:=⟨_,rfl⟩;have hks:=HKS.o;rw[<-hcv] at hks⊢;have HCV:=hd hcv;clear hcv;by_cases hc0:cv=0
  ·have HKM:Hd (kp=Jf ⟨m0,m1,m2,m3,m4⟩ ws):=hd (by rw[hks,ijn (by simpa using hc0)]);have HMF:=hd (fun W (hW:Ext [] w3 W)=>Hv ⟨m0,m1,m2,m3,m4⟩ (Fg (by rw[<-HCV.o];exact hc0)).1 A3 cap3 ws W (HIW.o W hW) (by omega));rw[<-HKM.o] at HMF;have hcb:(cv==0)=true:=by simpa using hc0
   have qm:=HM7.o.cell;have qml:=HM7.o.lt;clear hc0 hks;go_wp2_with fail
   refine(HMF.o _ HE7.o).mono ?_
   rintro e w8 ⟨rfl,hE8⟩;have HE8:=hd (HE7.o.trans hE8);clear qm qml hE8;have hkb:=HKB.o;go_wp2_with fail
   refine(Hf _).mono ?_
   rintro e w9 ⟨rfl,hE9⟩;have HE9:=hd (HE8.o.trans hE9);clear hE9;go_wp2_with fail
   go_ret
   exact⟨Ay (by simp),HEW.o.trans HE9.o⟩
  ·have hcb:(cv==0)=false:=by simpa using hc0
   have hkc:kp=cv:=by rw[hks,ijp hc0]
   subst hkc;have hkb:=HKB.o;clear hc0 hks;go_wp2_with fail
   refine(Hf _).mono ?_
   rintro e w9 ⟨rfl,hE9⟩;have HE9:=hd (HE7.o.trans hE9);clear hE9;go_wp2_with fail
   go_ret
   exact⟨Ay (by simp),HEW.o.trans HE9.o⟩
 ·have hkp0:kp=0:=HKP.o.trans hp;subst hkp0;obtain⟨hc0,hml0,hmw⟩:=Ly hp;clear hp
  have hms0:Jf ⟨m0,m1,m2,m3,m4⟩ ws=0:=by
   have h1:(0:Int)=if Cv ⟨m0,m1,m2,m3,m4⟩ xs≠0 then Cv ⟨m0,m1,m2,m3,m4⟩ xs else Jf ⟨m0,m1,m2,m3,m4⟩ ws:=HKP.o
   rw[ijn (by simpa using hc0)] at h1;exact h1.symm
  obtain⟨k1,k2,k3⟩:=Fg hc0;have HMF:=hd (fun W (hW:Ext [] w3 W)=>Hv ⟨m0,m1,m2,m3,m4⟩ k1 A3 cap3 ws W (HIW.o W hW) (by omega));have HNR:=hd (fun W (hW:Ext [] w3 W)=>Yj ⟨m0,m1,m2,m3,m4⟩ k1 A2 cap2 xs A3 cap3 ws W (HRW.o W hW) (by omega) (HIW.o W hW) hml0);rw[hms0] at HMF;rw[hc0] at HCF;have HOK0:=hd (show OkS ⟨m0,m1,m2,m3,m4⟩ xs (MS.new ws xs.length) from OkS.new k2 hmw);have HCE:=hd (And.intro k1 k2);have HC4:=hd hC4;have HK4:=hd hk4;have HE4:=hd hE4;have HM4:=hd (HM3.o.ext hE4 (by simp));clear qm qml hE4 hC4 hk4 hc0 hml0 hmw hms0 k1 k2 k3;have qm:=HM4.o.cell;have qml:=HM4.o.lt;go_wp2_with fail
  refine(HCF.o _ HE4.o).mono ?_
  rintro e w5 ⟨rfl,hE5⟩;have HE45:=hd hE5;have HE5:=hd (HE4.o.trans hE5);have HM5:=hd (HM4.o.ext hE5 (by simp));clear qm qml hE5;have qm:=HM5.o.cell;have qml:=HM5.o.lt;go_wp2_with fail
  refine(HMF.o _ HE5.o).mono ?_
  rintro e w6 ⟨rfl,hE6⟩;have HE46:=hd (HE45.o.trans hE6);have HE6:=hd (HE5.o.trans hE6);have HM6:=hd (HM5.o.ext hE6 (by simp));clear qm qml hE6;have qm:=HM6.o.cell;have qml:=HM6.o.lt;go_wp2_with fail
  refine(HNR.o _ HE6.o).mono ?_
  rintro e w7 ⟨R7,rfl,hE7,hR7,hcode,hk7⟩;have HI0:Hd (Ahq w.heap.size w1.heap.size A4.c R7.A.c w ⟨m0,m1,m2,m3,m4⟩ xs 0 w7):=hd (Abg rfl rfl HBML.o.2 (nl HBML.o.1 HE23.o) HEW.o HE4.o HE46.o hE7 HC4.o HK4.o hR7 hk7 HBA.o (fun hx a ha=>HR1.o.blk_lt a ha hx) HOK0.o HS3.o HM6.o);clear qm qml hE7 hR7 hcode hk7;go_wp2_with fail
  obtain⟨mm,hmm⟩:∃x,x=(⟨m0,m1,m2,m3,m4⟩:Mc):=⟨_,rfl⟩;have HMQ:=hd hmm;rw[<-hmm] at HI0 HCE;generalize hbm:w1.heap.size=bm at *;generalize hgw:w.heap.size=gg at *;have HGW:=hd hgw;clear hmm;go_loopw [61] (fun i wr=>∃k:Nat,i=.int .i64 k/\k<=300/\Hd (Ahq gg bm A4.c R7.A.c w mm xs k wr)) (fun i _=>(300-intOf i).toNat)
  case atStart=>exact⟨0,rfl,by omega,HI0⟩
  case round=>
   obtain⟨k,rfl,hk,hI⟩:=hrel;rename World=>wr
   obtain⟨S,A5,R5,hP,hok,hz,hcy,hcA,hcR,hS,hM,hE⟩:=hI.o;have HP:=hd hP;have HOK:=hd hok;have HZ:=hd hz;have HCY:=hd hcy;have HCA:=hd hcA;have HCR:=hd hcR;have HE:=hd hE;rw[HMQ.o] at hM;replace hM:Blk wr bm 27 #[m0,m1,m2,m3,m4]:=hM;have qm:=hM.cell;have qml:=hM.lt;have HM:=hd hM;have hal:=Pg gg gg ((301-(k+1))*100+40) hP.twin hz (hS.less (by omega));rw[hcA,hcR,HMQ.o] at hal;have HAL:=hd hal;have HSK:=hd hS;clear hP hok hz hcy hcA hcR hE hS hM hal;by_cases hlt:k<300
   ·go_wp2_with fail
    refine HAL.o.mono ?_
    rintro e w8 ⟨rfl,hE8,hS8⟩;have HP8:=hd (HP.o.ext hE8);have HS8:=hd hS8;have HM8:=hd (HM.o.ext hE8 (by have h1:=HBML.o.2;simp;omega));have HE8:=hd (HE.o.step hE8 (fun x hx=>.inr (by rw[ms hx,HGW.o];exact Nat.le_refl _)));have hst:=Xk HP8.o.twin.chip HOK.o HCE.o.2 HCY.o (by omega) (by omega);rw[HCA.o] at hst;have HST:=hd hst;clear qm qml hE8 hS8 hst HSK;go_wp2_with fail
    refine HST.o.mono ?_
    rintro e w9 ⟨rfl,A9,hE9,hC9,hc9,hk9⟩
    obtain⟨A2',hA2c,hA2,hR9,hdis,htop,hlo,hga,hba⟩:∃A2:CA,A2.c=A5.c/\Ag w9 A2 mm xs (Cf mm xs S).2/\Ak w9 R5 mm xs S/\(∀b,A2.kd b<40->40<=R5.A.kd b)/\(∀b,w9.heap.size<=b->40<=A2.kd b/\40<=R5.A.kd b)/\(∀b,A2.kd b<40\/R5.A.kd b<40->gg<=b)/\40<=A2.kd gg/\40<=A2.kd bm:=
     HP8.o.chipStep hE9 hC9 hc9 hk9 (fun A2 a b c d e f g h=>⟨A2,a,b,c,d,e,f,g,h⟩)
    obtain⟨T,hT,hTg,hTb,hTl⟩:=Un hE9 (fun b hb=>HP8.o.lo b (.inl hb)) HP8.o.twin.ga HP8.o.bma;have HM9:=hd (HM8.o.ext hT hTb);have HS9:=hd (HS8.o.ext hT hTg hTl);have HE9:=hd (HE8.o.step hT (fun x hx=>.inr (by rw[HGW.o];exact hTl x hx)));have hg9:gg<w9.heap.size:=nl HP8.o.gl hT.size;have hb9:bm<w9.heap.size:=nl HP8.o.bml hT.size;have hst:=Uj hR9 HOK.o HCE.o.2 HCY.o (by omega) (by omega);rw[HCR.o] at hst;have HST:=hd hst
    have HTW:=hd (fun(w':World) (hE':Aj R5.A w9 w') (R':RA) (hR':Ak w' R' mm xs (Cf mm xs S).2) (hc':R'.A.c=R5.A.c) (hk':∀b,b<w9.heap.size->R'.A.kd b=R5.A.kd b)=>
     (Aee hg9 hb9 hA2 hdis htop hlo hga hba HP8.o.twin.gr HP8.o.bmr hE' hR' hc' hk':∃R2:RA,R2.A.c=R5.A.c/\Tm w' A2' R2 mm xs (Cf mm xs S).2 gg bm))
    have HAC:=hd (hA2c.trans HCA.o);have HAP:=hd (fun(w':World) (hE':Aj R5.A w9 w')=>Un hE' (fun b hb=>HP8.o.lo b (.inr hb)) HP8.o.twin.gr HP8.o.bmr);obtain⟨b,hb⟩:∃b,b=(Cf mm xs S).1:=⟨_,rfl⟩;rw[<-hb];have HBB:=hd hb;clear hst hE9 hC9 hc9 hk9 hA2 hR9 hdis htop hlo hga hba hT hTg hTb hTl hb hg9 hb9 hA2c;go_wp2_with fail
    refine HST.o.mono ?_
    rintro e w10 ⟨rfl,R10,hE10,hR10,hc10,hk10⟩;rw[<-HBB.o];obtain⟨R2,hR2c,hP10⟩:=HTW.o w10 hE10 R10 hR10 hc10 hk10;obtain⟨T,hT,hTg,hTb,hTl⟩:=HAP.o w10 hE10;have HM10:=hd (HM9.o.ext hT hTb);have HS10:=hd (HS9.o.ext hT hTg hTl);have HE10:=hd (HE9.o.step hT (fun x hx=>.inr (by rw[HGW.o];exact hTl x hx)));have HP10:=hd hP10;have HRC:=hd (hR2c.trans HCR.o);have HOK10:=hd (HOK.o.step HCE.o.1 HCE.o.2);have HZ10:=hd (Zs.step (m:=mm) (xs:=xs) HZ.o);have HCY10:=hd (HCY.o.step HCE.o.1 HCE.o.2 HOK.o);clear hE10 hR10 hc10 hk10 hR2c hP10 hT hTg hTb hTl;cases b
    ·go_wp2_with fail
     refine(Hf _).mono ?_
     rintro e w11 ⟨rfl,hE11⟩;have HP11:=hd (HP10.o.ext hE11.nil);have HM11:=hd (HM10.o.ext hE11 (by simp));have HE11:=hd (HE10.o.trans hE11);have hal:=Pg gg gg 0 HP11.o.twin HZ10.o ((HS10.o.ext hE11 (by simp) (by simp)).less (by omega));rw[HAC.o,HRC.o,HMQ.o] at hal;have HAL2:=hd hal;have qm:=HM11.o.cell;have qml:=HM11.o.lt;clear hE11 hal;go_wp2_with fail
     refine HAL2.o.mono ?_
     rintro e w12 ⟨rfl,hE12,_⟩;have HE12:=hd (HE11.o.step hE12 (fun x hx=>.inr (by rw[ms hx,HGW.o];exact Nat.le_refl _)));clear hE12 qm qml;go_wp2_with fail
     go_ret
     exact⟨rfl,HE12.o⟩
    ·go_wp2_with fail
     go_round
     case rel=>exact⟨k+1,by go_num,by omega,hd ⟨_,_,_,HP10.o,HOK10.o,HZ10.o,HCY10.o.more (by omega),HAC.o,HRC.o,HS10.o.less (by omega),by rw[HMQ.o];exact HM10.o,HE10.o⟩⟩
     case measure=>simp[intOf];omega
   ·clear qm qml;go_wp2_with fail
    refine(Hf _).mono ?_
    rintro e w11 ⟨rfl,hE11⟩;have HP11:=hd (HP.o.ext hE11.nil);have HM11:=hd (HM.o.ext hE11 (by simp));have HE11:=hd (HE.o.trans hE11);have hal:=Pg gg gg 0 HP11.o.twin HZ.o ((HSK.o.ext hE11 (by simp) (by simp)).less (by omega));rw[HCA.o,HCR.o,HMQ.o] at hal;have HAL2:=hd hal;have qm:=HM11.o.cell;have qml:=HM11.o.lt;clear hE11 hal;go_wp2_with fail
    refine HAL2.o.mono ?_
    rintro e w12 ⟨rfl,hE12,_⟩;have HE12:=hd (HE11.o.step hE12 (fun x hx=>.inr (by rw[ms hx,HGW.o];exact Nat.le_refl _)));clear hE12 qm qml;go_wp2_with fail
    go_ret
    exact⟨rfl,HE12.o⟩
end Go.Proofs.YtkgmhggliifkjaaGreat
