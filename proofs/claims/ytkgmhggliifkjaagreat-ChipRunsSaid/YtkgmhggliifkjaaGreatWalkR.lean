import Derived.Test.YtkgmhggliifkjaaGreatP46
import Derived.Test.YtkgmhggliifkjaaGreatP47
import Derived.Test.YtkgmhggliifkjaaGreatP48
import Derived.Test.YtkgmhggliifkjaaGreatP49
import Derived.Test.YtkgmhggliifkjaaGreatP50
import Derived.Test.YtkgmhggliifkjaaGreatP52
namespace Go.Proofs.YtkgmhggliifkjaaGreat
open Go.RowKit Go.Proofs.Tryz
set_option linter.all false
set_option maxHeartbeats 8000000
set_option maxRecDepth 100000
attribute [local irreducible] Ax
theorem chipRuns_any (A:Option Addr)(len cap:Nat)(w:World)(hlen:len<=9223372036854775807)(hA:0<len->∃b o,A=some ⟨b,o,none⟩/\b<w.heap.size/\∀i,i<len->∃x,w.cell? ⟨b,o+i,none⟩=some (.int .i64 x)) :
  Calls prog 3 #[.slice A len cap] w fun e w'=>e=.returned (.bool true)/\Ext [] w w':=by
 have HST:=hd (Sb A len cap w hlen hA);clear hA;go_enter func3,ntmps3
 go_wp2_with fail
 refine(Ul w.heap.size w.heap.size 5000 _ (HST.o.less (by omega))).mono ?_
 rintro e w1 ⟨⟨m0,m1,m2,m3,m4⟩,v,len1,rfl,hC,hl1,hE,hS⟩;obtain⟨A2,cap2,xs,rfl,hx,hr,hb⟩:=hC;have HE1:Hd (Ext [] w w1):=hd (((Ext.refl [] w).alloc _).step hE (fun i hi=>.inr (by rw[ms hi];exact Nat.le_refl _)));have HR1:=hd hr;have HS1:=hd hS;have hg1:w.heap.size<w1.heap.size:=hS.lt;have HBA:Hd (∀a,A2=some a->w.heap.size+1<=a.block):=hd (fun a ha=>by have:=hb a ha;simpa using this);subst hx;clear hE hS hr hb;simp only[Mc.cells];have HM2:=hd (Blk.new w1 27 #[m0,m1,m2,m3,m4]);have HE2:=hd ((Ext.refl [] w1).alloc (.cells #[m0,m1,m2,m3,m4] 27));have HS2:=hd (HS1.o.alloc (.cells #[m0,m1,m2,m3,m4] 27));go_upto_region 3 with fail
 generalize w1.alloc (.cells #[m0,m1,m2,m3,m4] 27)=w2 at *;have HEW2:Hd (Ext [] w w2):=hd (HE1.o.trans HE2.o);have qm:=HM2.o.cell;have qml:=HM2.o.lt;go_wp2_with fail
 refine(Uk w.heap.size w.heap.size 1000 ⟨m0,m1,m2,m3,m4⟩ _ (HS2.o.less (by omega))).mono ?_
 rintro e w3 ⟨A3,cap3,ws,rfl,hwl,hri,hE3,hS3,hA3⟩;have HM3:=hd (HM2.o.ext hE3 (by simp;omega));have HEW:Hd (Ext [] w w3):=hd (HEW2.o.step hE3 (fun i hi=>.inr (by rw[ms hi];exact Nat.le_refl _)));have HRW:Hd (∀W,Ext [] w3 W->RdC W A2 xs):=hd fun W hW=>(HR1.o.ext (HE2.o.nil.trans hE3) (fun a ha hm=>by have:=HBA.o a ha;rw[ms hm] at this;omega)).ext hW (by simp)
 have HIW:Hd (∀W,Ext [] w3 W->RdI W A3 ws):=hd fun W hW=>hri.ext hW (by simp)
 have HCF:=hd (fun W (hW:Ext [] w3 W)=>Ng ⟨m0,m1,m2,m3,m4⟩ A2 cap2 xs W (HRW.o W hW) (by omega));have hlow:w3.heap.size<=w3.heap.size:=Nat.le_refl _;have HA2L:Hd (xs≠[]->∀a,A2=some a->a.block<w3.heap.size):=hd fun h0 a ha=>(HRW.o w3 er).blk_lt a ha h0
 clear qm qml hri hE3 hS3 hA3;have qm:=HM3.o.cell;have qml:=HM3.o.lt;obtain⟨kp,hkp⟩:∃k,k=Di ⟨m0,m1,m2,m3,m4⟩ xs ws:=⟨_,rfl⟩;by_cases hp:kp=0
 ·obtain⟨hc0,hml0,hmw⟩:=Ly (hkp.symm.trans hp)
  have hms0:Jf ⟨m0,m1,m2,m3,m4⟩ ws=0:=by
   have h1:kp=if Cv ⟨m0,m1,m2,m3,m4⟩ xs≠0 then Cv ⟨m0,m1,m2,m3,m4⟩ xs else Jf ⟨m0,m1,m2,m3,m4⟩ ws:=hkp
   rw[ijn (by simpa using hc0)] at h1;rw[<-h1,hp]
  have HP0:Hd (Di ⟨m0,m1,m2,m3,m4⟩ xs ws=0):=hd (hkp.symm.trans hp);have HMF:=hd (fun W (hW:Ext [] w3 W)=>Hv ⟨m0,m1,m2,m3,m4⟩ (Fg hc0).1 A3 cap3 ws W (HIW.o W hW) (by omega));have HCR:=hd (fun W (hW:Ext [] w3 W)=>Yp ⟨m0,m1,m2,m3,m4⟩ A2 cap2 xs A3 cap3 ws W (HRW.o W hW) (by omega) (HIW.o W hW) HP0.o);rw[hms0] at HMF;rw[hc0] at HCF;have HML0:=hd hml0;clear hkp hp hc0 hml0 hmw hms0;obtain⟨fl,hfl⟩:∃f,f=(Ew ⟨m0,m1,m2,m3,m4⟩ xs ws).fault.isSome:=⟨_,rfl⟩
  have hown:∀x∈Af3 A2 xs,x<w3.heap.size/\w.heap.size<=x:=fun x hx=>by
   unfold Af3 at hx;split at hx
   ·cases hx
   ·rename_i hxs
    cases A2 with
    | none=>simp at hx
    | some a=>
     simp at hx;subst hx;have h1:=HBA.o a rfl;exact⟨HA2L.o hxs a rfl,by omega⟩
  have HOWN:=hd hown;clear hown;cases fl
  ·have HRU:=hd (fun W (hW:Ext [] w3 W)=>Yq ⟨m0,m1,m2,m3,m4⟩ A2 cap2 xs A3 cap3 ws W (HRW.o W hW) (by omega) (HIW.o W hW) (by omega) HP0.o hfl.symm);have HSP:=hd (fun W (hW:Ext [] w3 W)=>Aa7 ⟨m0,m1,m2,m3,m4⟩ A2 cap2 xs A3 cap3 ws W (HRW.o W hW) (by omega) (HIW.o W hW) (by omega) HP0.o hfl.symm)
   have HFN:Hd ((Ew ⟨m0,m1,m2,m3,m4⟩ xs ws).fault=none):=hd (by cases hx:(Ew ⟨m0,m1,m2,m3,m4⟩ xs ws).fault with
    | none=>rfl
    | some y=>rw[hx] at hfl;cases hfl)
   have HML1:Hd ((Nq ⟨m0,m1,m2,m3,m4⟩ (Ew ⟨m0,m1,m2,m3,m4⟩ xs ws)).length=m0.toNat):=hd (by unfold Nq;rw[List.length_map,List.length_range]);generalize hFS:Ew ⟨m0,m1,m2,m3,m4⟩ xs ws=FT at *;have HFS:=hd hFS;clear hfl hFS;generalize hMW:Nq ⟨m0,m1,m2,m3,m4⟩ FT=MW at *;have HMW:=hd hMW;clear hMW;go_wp2_with fail
   refine(HRU.o _ er).mono ?_
   rintro e w4 ⟨b4,cap4,rfl,hE4,hR4,hb4⟩;have HE4:=hd hE4;have HM4:=hd (HM3.o.ext hE4 (by simp));have HR4:=hd hR4;have HB4:=hd hb4;clear qm qml hE4 hR4 hb4;have qm:=HM4.o.cell;have qml:=HM4.o.lt;go_wp2_with fail
   refine(HSP.o _ HE4.o).mono ?_
   rintro e w5 ⟨rfl,hE5⟩;have HE45:=hd hE5;have HE5:=hd (HE4.o.trans hE5);have HM5:=hd (HM4.o.ext hE5 (by simp));clear qm qml hE5;have HF6:=hd (Blk.new w5 36 #[(0:Int),(0:Int)]);have HE56:=hd ((Ext.refl [] w5).alloc (.cells #[(0:Int),(0:Int)] 36));have HE6:=hd (HE5.o.trans HE56.o);have HE46:=hd (HE45.o.trans HE56.o);have HM6:=hd (HM5.o.ext HE56.o (by simp));go_upto_region 6 with fail
   generalize w5.alloc (.cells #[(0:Int),(0:Int)] 36)=w6 at *;have qm:=HM6.o.cell;have qml:=HM6.o.lt;go_wp2_with fail
   refine(HCF.o _ HE6.o).mono ?_
   rintro e w7 ⟨rfl,hE7⟩;have HE7:=hd (HE6.o.trans hE7);have HE47:=hd (HE46.o.trans hE7);have HM7:=hd (HM6.o.ext hE7 (by simp));have HF7:=hd (HF6.o.ext hE7 (by simp));clear qm qml hE7;have qm:=HM7.o.cell;have qml:=HM7.o.lt;go_wp2_with fail
   refine(HMF.o _ HE7.o).mono ?_
   rintro e w8 ⟨rfl,hE8⟩;have HE8:=hd (HE7.o.trans hE8);have HE48:=hd (HE47.o.trans hE8);have HF8:=hd (HF7.o.ext hE8 (by simp));have HM8:=hd (HM7.o.ext hE8 (by simp));clear qm qml hE8;have qm:=HM8.o.cell;have qml:=HM8.o.lt;go_wp2_with fail
   refine(HCR.o _ HE8.o).mono ?_
   rintro e w9 ⟨R,rfl,hE9,hRI⟩;rw[HFS.o] at hRI;have hw35:=HE5.o.size;have HF9:=hd (HF8.o.ext hE9 (fun hm=>by have:=(HOWN.o _ hm).1;omega));have HR9:=hd ((HR4.o.ext HE48.o (by simp)).ext hE9 (fun a ha hm=>by cases ha;have h1:b4<w3.heap.size:=(HOWN.o b4 hm).1;have h2:=HB4.o;omega));have HE9:Hd (Ext [] w w9):=hd ((HEW.o.trans HE8.o).step hE9 (fun x hx=>.inr (HOWN.o x hx).2));have HRI:=hd hRI
   have q39:w9.cell? ⟨R.A.c,39,none⟩=some (.pointer none):=by
    rw[hRI.ref.cell,Ci _ _ _ _ (by omega)];show some (Value.pointer (match FT.fault with|none=>none|some _=>some R.fb))=_
    rw[HFN.o]
   have qrl:=hRI.ref.lt;clear qm qml hE9 hRI;go_wp2_with fail
   refine(Hf _).mono ?_
   rintro e w10 ⟨rfl,hE10⟩;have HE10:=hd (HE9.o.trans hE10);have HRI10:=hd (HRI.o.nil hE10);have HF10:=hd (HF9.o.ext hE10 (by simp));have HR10:=hd (HR9.o.ext hE10 (by simp));clear q39 qrl hE10
   have q32:w10.cell? ⟨R.A.c,32,none⟩=some (.slice (some R.A.mb) m0.toNat R.A.mcap):=by
    rw[HRI10.o.ref.cell,Ci _ _ _ _ (by omega)];rfl
   have qrl:=HRI10.o.ref.lt
   have HRX:=hd (show RdI w10 (some R.A.mb) MW from .inr ⟨R.A.mb,0,rfl,fun i x hx=>by
    have hlt:=(ils hx).1;rw[HML1.o] at hlt;rw[<-HMW.o] at hx;unfold Nq at hx;rw[List.getElem?_map,List.getElem?_range hlt] at hx;cases hx
    rw[Nat.zero_add];exact HRI10.o.mem.main.cell hlt⟩)
   have hml9:m0.toNat<=1001:=by have h9:(ws.length:Int)=m0:=HML0.o;omega
   have HML9:=hd hml9;clear hml9;go_wp2_with fail
   refine(Aa8 _ _ _ _ m0.toNat MW MW w10 HR10.o HRX.o (by have:=HML9.o;omega) HML1.o HML1.o).mono ?_
   rintro e w11 ⟨rfl,hE11⟩;rw[show decide (MW=MW)=true from decide_eq_true rfl];have HE11:=hd (HE10.o.trans hE11);have HRI11:=hd (HRI10.o.nil hE11);have HF11:=hd (HF10.o.ext hE11 (by simp));clear q32 qrl hE11
   have q38:w11.cell? ⟨R.A.c,38,none⟩=some (.int .i64 FT.cyc):=by
    rw[HRI11.o.ref.cell,Ci _ _ _ _ (by omega)];rfl
   have qrl:=HRI11.o.ref.lt;have qf:=HF11.o.cell;have qfl:=HF11.o.lt;go_wp2_with fail
   go_ret
   exact⟨Ay (by simp),HE11.o⟩
  ·have HRU:=hd (fun W (hW:Ext [] w3 W)=>Af5 ⟨m0,m1,m2,m3,m4⟩ A2 cap2 xs A3 cap3 ws W (HRW.o W hW) (by omega) (HIW.o W hW) (by omega) HP0.o hfl.symm);have HSP:=hd (fun W (hW:Ext [] w3 W)=>Aa6 ⟨m0,m1,m2,m3,m4⟩ A2 cap2 xs A3 cap3 ws W (HRW.o W hW) (by omega) (HIW.o W hW) (by omega) HP0.o hfl.symm);generalize hFS:Ew ⟨m0,m1,m2,m3,m4⟩ xs ws=FT at *;have HFS:=hd hFS
   obtain⟨fa,fk,hfa⟩:∃(a:Nat) (k:Int),FT.fault=some (a,k):=by
    cases hx:FT.fault with
    | none=>rw[hx] at hfl;cases hfl
    | some y=>exact⟨y.1,y.2,rfl⟩
   have HFA:=hd hfa;rw[show flA FT=(fa:Int) by unfold flA;rw[hfa],show flK FT=fk by unfold flK;rw[hfa]] at HSP;clear hfl hFS hfa;go_wp2_with fail
   refine(HRU.o _ er).mono ?_
   rintro e w4 ⟨rfl,hE4⟩;have HE4:=hd hE4;have HM4:=hd (HM3.o.ext hE4 (by simp));clear qm qml hE4;have qm:=HM4.o.cell;have qml:=HM4.o.lt;go_wp2_with fail
   refine(HSP.o _ HE4.o).mono ?_
   rintro e w5 ⟨rfl,hE5⟩;have HE5:=hd (HE4.o.trans hE5);have HM5:=hd (HM4.o.ext hE5 (by simp));clear qm qml hE5;have HF6:=hd (Blk.new w5 36 #[fa,fk]);have HE56:=hd ((Ext.refl [] w5).alloc (.cells #[fa,fk] 36));have HE6:=hd (HE5.o.trans HE56.o);have HM6:=hd (HM5.o.ext HE56.o (by simp));go_upto_region 6 with fail
   generalize w5.alloc (.cells #[fa,fk] 36)=w6 at *;have qm:=HM6.o.cell;have qml:=HM6.o.lt;go_wp2_with fail
   refine(HCF.o _ HE6.o).mono ?_
   rintro e w7 ⟨rfl,hE7⟩;have HE7:=hd (HE6.o.trans hE7);have HM7:=hd (HM6.o.ext hE7 (by simp));have HF7:=hd (HF6.o.ext hE7 (by simp));clear qm qml hE7;have qm:=HM7.o.cell;have qml:=HM7.o.lt;go_wp2_with fail
   refine(HMF.o _ HE7.o).mono ?_
   rintro e w8 ⟨rfl,hE8⟩;have HE8:=hd (HE7.o.trans hE8);have HF8:=hd (HF7.o.ext hE8 (by simp));have HM8:=hd (HM7.o.ext hE8 (by simp));clear qm qml hE8;have qm:=HM8.o.cell;have qml:=HM8.o.lt;go_wp2_with fail
   refine(HCR.o _ HE8.o).mono ?_
   rintro e w9 ⟨R,rfl,hE9,hRI⟩;rw[HFS.o] at hRI;have hw35:=HE5.o.size;have HF9:=hd (HF8.o.ext hE9 (fun hm=>by have:=(HOWN.o _ hm).1;omega));have HE9:Hd (Ext [] w w9):=hd ((HEW.o.trans HE8.o).step hE9 (fun x hx=>.inr (HOWN.o x hx).2));have HRI:=hd hRI
   have h39:∀W,Ak W R ⟨m0,m1,m2,m3,m4⟩ xs FT->W.cell? ⟨R.A.c,39,none⟩=some (.pointer (some R.fb)):=fun W hW=>by
    rw[hW.ref.cell,Ci _ _ _ _ (by omega)];show some (Value.pointer (match FT.fault with|none=>none|some _=>some R.fb))=_
    rw[HFA.o]
   have H39:=hd h39;have q39:=h39 _ hRI;have qrl:=hRI.ref.lt;clear qm qml hE9 hRI h39;go_upto_region 13 with fail
   clear q39 qrl;refine rgE 28 [(0,Bv (.bool true))] ?_
   simp only[TK];refine Bj rfl rfl ?_ ?_
   ·apply Exists.intro
    apply Exists.intro
    refine⟨fun wr=>?_,fun wr nr hJ=>?_⟩
    ·go_simp
     first|exact⟨rfl,rfl⟩|rfl
    ·exact(Hf _)
   simp only[PT]
   repeat(refine dE (fun wr nr hJ=>by(have hX:=HRI.o.nil hJ;have q39:=H39.o _ hX;have qrl:=hX.ref.lt;have hfb:=(hX.flt _ _ HFA.o).1;have qb:=hfb.cell;have qbl:=hfb.lt;have hF9:=HF9.o.ext hJ (by simp);have qf:=hF9.cell;have qfl:=hF9.lt;clear hX hfb hF9);clear hJ;exact CL) ?_;simp only[PT])
   refine Aa (fun w10 hJ hF=>?_)
   have HE10:=hd (HE9.o.trans hJ);clear hF hJ;go_wp2_with fail
   go_ret
   exact⟨Ay (by simp),HE10.o⟩
 ·have HRU:=hd (fun W (hW:Ext [] w3 W)=>Agx ⟨m0,m1,m2,m3,m4⟩ A2 cap2 xs A3 cap3 ws W (HRW.o W hW) (by omega) (HIW.o W hW) (by omega) (by rw[<-hkp];exact hp));have HSP:=hd (fun W (hW:Ext [] w3 W)=>Aeb ⟨m0,m1,m2,m3,m4⟩ A2 cap2 xs A3 cap3 ws W (HRW.o W hW) (by omega) (HIW.o W hW) (by omega) (by rw[<-hkp];exact hp));have hks:kp=if Cv ⟨m0,m1,m2,m3,m4⟩ xs≠0 then Cv ⟨m0,m1,m2,m3,m4⟩ xs else Jf ⟨m0,m1,m2,m3,m4⟩ ws:=hkp
  rw[<-hkp] at HRU HSP;have hkb:(kp != 0)=true:=by simpa using hp
  have HKB:=hd hkb;have HKS:=hd hks;clear hkp hkb hks;go_wp2_with fail
  refine(HRU.o _ er).mono ?_
  rintro e w4 ⟨rfl,hE4⟩;have HE4:=hd hE4;have HM4:=hd (HM3.o.ext hE4 (by simp));clear qm qml hE4;have qm:=HM4.o.cell;have qml:=HM4.o.lt;go_wp2_with fail
  refine(HSP.o _ HE4.o).mono ?_
  rintro e w5 ⟨rfl,hE5⟩;have HE5:=hd (HE4.o.trans hE5);have HM5:=hd (HM4.o.ext hE5 (by simp));clear qm qml hE5;have HF6:=hd (Blk.new w5 36 #[(0:Int),(0:Int)]);have HE56:=hd ((Ext.refl [] w5).alloc (.cells #[(0:Int),(0:Int)] 36));have HE6:=hd (HE5.o.trans HE56.o);have HM6:=hd (HM5.o.ext HE56.o (by simp));go_upto_region 6 with fail
  generalize w5.alloc (.cells #[(0:Int),(0:Int)] 36)=w6 at *;have qm:=HM6.o.cell;have qml:=HM6.o.lt;go_wp2_with fail
  refine(HCF.o _ HE6.o).mono ?_
  rintro e w7 ⟨rfl,hE7⟩;have HE7:=hd (HE6.o.trans hE7);have HM7:=hd (HM6.o.ext hE7 (by simp));have HF7:=hd (HF6.o.ext hE7 (by simp));clear qm qml hE7;obtain⟨cv,hcv⟩:∃cv,cv=Cv ⟨m0,m1,m2,m3,m4⟩ xs:=⟨_,rfl⟩;have hks:=HKS.o;rw[<-hcv] at hks⊢;have HCV:=hd hcv;clear hcv;by_cases hc0:cv=0
  ·have HKM:Hd (kp=Jf ⟨m0,m1,m2,m3,m4⟩ ws):=hd (by rw[hks,ijn (by simpa using hc0)]);have HMF:=hd (fun W (hW:Ext [] w3 W)=>Hv ⟨m0,m1,m2,m3,m4⟩ (Fg (by rw[<-HCV.o];exact hc0)).1 A3 cap3 ws W (HIW.o W hW) (by omega));rw[<-HKM.o] at HMF;have hcb:(cv==0)=true:=by simpa using hc0
   have qm:=HM7.o.cell;have qml:=HM7.o.lt;clear hc0 hks;go_wp2_with fail
   refine(HMF.o _ HE7.o).mono ?_
   rintro e w8 ⟨rfl,hE8⟩;have HE8:=hd (HE7.o.trans hE8);have HF8:=hd (HF7.o.ext hE8 (by simp));clear qm qml hE8;have hkb:=HKB.o;go_wp2_with fail
   refine(Hf _).mono ?_
   rintro e w9 ⟨rfl,hE9⟩;have HE9:=hd (HE8.o.trans hE9);have HF9:=hd (HF8.o.ext hE9 (by simp));have qf:=HF9.o.cell;have qfl:=HF9.o.lt;clear hE9;go_wp2_with fail
   go_ret
   exact⟨Ay (by simp),HEW.o.trans HE9.o⟩
  ·have hcb:(cv==0)=false:=by simpa using hc0
   have hkc:kp=cv:=by rw[hks,ijp hc0]
   subst hkc;have hkb:=HKB.o;clear hc0 hks;go_wp2_with fail
   refine(Hf _).mono ?_
   rintro e w9 ⟨rfl,hE9⟩;have HE9:=hd (HE7.o.trans hE9);have HF9:=hd (HF7.o.ext hE9 (by simp));have qf:=HF9.o.cell;have qfl:=HF9.o.lt;clear hE9;go_wp2_with fail
   go_ret
   exact⟨Ay (by simp),HEW.o.trans HE9.o⟩
end Go.Proofs.YtkgmhggliifkjaaGreat
