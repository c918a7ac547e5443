import Derived.Test.YtkgmhggliifkjaaGreatP18
import Derived.Deep.RegionHeld3
namespace Go.Proofs.YtkgmhggliifkjaaGreat
open Go.RowKit Go.Proofs.Tryz
set_option linter.all false
set_option maxHeartbeats 8000000
set_option maxRecDepth 100000
attribute [local irreducible] Ax
theorem Adh {w:World}{p:Addr}{v:Value}(o:Obj)(h:w.cell? p=some v):(w.alloc o).cell? p=some v:=by
 rw[World.cell?_alloc_lt _ _ _ (World.block_lt_of_cell? w _ h)];exact h
def Fa (S:MS)(a:Nat):Array Value:=#[(S.v a 0),(S.v a 1),(S.v a 2),(S.v a 3),(S.v a 4),(S.v a 5),(S.v a 6),(S.v a 7)]
theorem Rj (S:MS)(a:Nat){k:Nat}(hk:k<8):(Fa S a)[k]? = some (.int .i64 (S.v a (k:Nat))):=by
 have h:k=0\/k=1\/k=2\/k=3\/k=4\/k=5\/k=6\/k=7:=by omega
 rcases h with rfl|rfl|rfl|rfl|rfl|rfl|rfl|rfl<;>rfl
def Lb (S:MS)(w0:World)(a b c:Nat)(s7 s8 s9:Value)(w:World):Prop:=
 ∃p q r:Nat,s7=.pointer (some p)/\s8=.pointer (some q)/\s9=.pointer (some r)/\Ext [] w0 w/\
  w0.heap.size<=p/\w0.heap.size<=q/\w0.heap.size<=r/\
  Blk w p 67 (Fa S a)/\Blk w q 67 (Fa S b)/\Blk w r 67 (Fa S c)
theorem Adi (w:World)(t:TypeId)(C1 C2 C3:Array Value):let W:=(((w.alloc (.cells C1 t)).alloc (.cells C2 t)).alloc (.cells C3 t)).drew;Blk W w.heap.size t C1/\Blk W (w.heap.size+1) t C2/\Blk W (w.heap.size+1+1) t C3/\Ext [] w W:=
 ⟨(((Blk.new w _ _).alloc _).alloc _).drew,((Blk.new' (w.alloc _) _ _ (w.heap.size+1) (by simp)).alloc _).drew,(Blk.new' ((w.alloc _).alloc _) _ _ (w.heap.size+1+1) (by simp)).drew,(((er.alloc _).alloc _).alloc _).drew⟩
theorem Lb.p0 {S:MS}{w:World}{a b c:Nat}:Lb S w a b c (.pointer (some w.heap.size)) (.pointer (some ⟨w.heap.size+1,0,none⟩)) (.pointer (some ⟨w.heap.size+1+1,0,none⟩)) ((((w.alloc (.cells (Fa S a) 67)).alloc (.cells (Fa S b) 67)).alloc (.cells (Fa S c) 67)).drew):=by
 have h:=Adi w 67 (Fa S a) (Fa S b) (Fa S c);exact⟨_,_,_,rfl,rfl,rfl,h.2.2.2,by omega,by omega,by omega,h.1,h.2.1,h.2.2.1⟩
theorem Lb.p1 {S:MS}{w:World}{a b c:Nat}:Lb S w a b c (.pointer (some w.heap.size)) (.pointer (some ⟨w.heap.size+1+1,0,none⟩)) (.pointer (some ⟨w.heap.size+1,0,none⟩)) ((((w.alloc (.cells (Fa S a) 67)).alloc (.cells (Fa S c) 67)).alloc (.cells (Fa S b) 67)).drew):=by
 have h:=Adi w 67 (Fa S a) (Fa S c) (Fa S b);exact⟨_,_,_,rfl,rfl,rfl,h.2.2.2,by omega,by omega,by omega,h.1,h.2.2.1,h.2.1⟩
theorem Lb.p2 {S:MS}{w:World}{a b c:Nat}:Lb S w a b c (.pointer (some ⟨w.heap.size+1,0,none⟩)) (.pointer (some w.heap.size)) (.pointer (some ⟨w.heap.size+1+1,0,none⟩)) ((((w.alloc (.cells (Fa S b) 67)).alloc (.cells (Fa S a) 67)).alloc (.cells (Fa S c) 67)).drew):=by
 have h:=Adi w 67 (Fa S b) (Fa S a) (Fa S c);exact⟨_,_,_,rfl,rfl,rfl,h.2.2.2,by omega,by omega,by omega,h.2.1,h.1,h.2.2.1⟩
theorem Lb.p3 {S:MS}{w:World}{a b c:Nat}:Lb S w a b c (.pointer (some ⟨w.heap.size+1+1,0,none⟩)) (.pointer (some w.heap.size)) (.pointer (some ⟨w.heap.size+1,0,none⟩)) ((((w.alloc (.cells (Fa S b) 67)).alloc (.cells (Fa S c) 67)).alloc (.cells (Fa S a) 67)).drew):=by
 have h:=Adi w 67 (Fa S b) (Fa S c) (Fa S a);exact⟨_,_,_,rfl,rfl,rfl,h.2.2.2,by omega,by omega,by omega,h.2.2.1,h.1,h.2.1⟩
theorem Lb.p4 {S:MS}{w:World}{a b c:Nat}:Lb S w a b c (.pointer (some ⟨w.heap.size+1,0,none⟩)) (.pointer (some ⟨w.heap.size+1+1,0,none⟩)) (.pointer (some w.heap.size)) ((((w.alloc (.cells (Fa S c) 67)).alloc (.cells (Fa S a) 67)).alloc (.cells (Fa S b) 67)).drew):=by
 have h:=Adi w 67 (Fa S c) (Fa S a) (Fa S b);exact⟨_,_,_,rfl,rfl,rfl,h.2.2.2,by omega,by omega,by omega,h.2.1,h.2.2.1,h.1⟩
theorem Lb.p5 {S:MS}{w:World}{a b c:Nat}:Lb S w a b c (.pointer (some ⟨w.heap.size+1+1,0,none⟩)) (.pointer (some ⟨w.heap.size+1,0,none⟩)) (.pointer (some w.heap.size)) ((((w.alloc (.cells (Fa S c) 67)).alloc (.cells (Fa S b) 67)).alloc (.cells (Fa S a) 67)).drew):=by
 have h:=Adi w 67 (Fa S c) (Fa S b) (Fa S a);exact⟨_,_,_,rfl,rfl,rfl,h.2.2.2,by omega,by omega,by omega,h.2.2.1,h.2.1,h.1⟩
theorem Adj {w:World}{A:CA}{m:Mc}{xs:List Ins}{S:MS}(h:Ag w A m xs S)(hw:WfM m S)(xk xc xp xn xm:Int)(d a b:Nat)(hv:VI m ⟨11,xk,d,a,b,xc,xp,xn,xm⟩)(hb0:Cg m S (Ae m S ⟨11,xk,d,a,b,xc,xp,xn,xm⟩) (Ab m S ⟨11,xk,d,a,b,xc,xp,xn,xm⟩)=0) :
  Calls prog 45 #[.pointer (some A.c),.agg #[(11:Int),xk,d,a,b,xc,xp,xn,xm]] w (Fb A m xs (Az m S ⟨11,xk,d,a,b,xc,xp,xn,xm⟩) w):=by
 have HEF:Hd (Az m S ⟨11,xk,d,a,b,xc,xp,xn,xm⟩={S with v:=Be S.v d fun k=>if 0<=k/\k<m.lanes then opS xk xn xm (S.v a k) (S.v b k) (S.v xc k) else S.v d k }):=hd (by simp[Az]);rw[HEF.o];have HH:=hd h;have HV:=hd hv;have HW:=hd hw;have HB0:=hd hb0;have hm:=Bc h.kd.ok;have hd16:d<16:=by have:=hv.d;dsimp only at this;omega
 have ha16:a<16:=by have:=hv.a;dsimp only at this;omega
 have hb16:b<16:=by have:=hv.b;dsimp only at this;omega
 have hdZ:((d:Nat):Int)<16:=by omega
 have haZ:((a:Nat):Int)<16:=by omega
 have hbZ:((b:Nat):Int)<16:=by omega
 have HT:=hd (fun W (hW:Ext [] w W)=>Cu (h.nil hW) hw 11 xk d a b xc xp xn xm hv);have HX:=hd (Blk.new w 76 #[(11:Int),xk,d,a,b,xc,xp,xn,xm]);have HE0:=hd ((Ext.refl [] w).alloc (.cells #[(11:Int),xk,d,a,b,xc,xp,xn,xm] 76));have ha8:a<8:=by have:=hv.av (by simp);dsimp only at this;omega
 have hb8:b<8:=by have:=hv.bv (by simp);dsimp only at this;omega
 have hc8:=hv.cv rfl;dsimp only at hc8;obtain⟨c,rfl⟩:∃n:Nat,xc=n:=⟨xc.toNat,by omega⟩;have hc8':c<8:=by omega
 have hd8:d<8:=by have:=hv.dv (by simp);dsimp only at this;omega
 have hd8Z:((d:Nat):Int)<8:=by omega
 have ha8Z:((a:Nat):Int)<8:=by omega
 have hb8Z:((b:Nat):Int)<8:=by omega
 have hc8Z:((c:Nat):Int)<8:=by omega
 obtain⟨L,hL⟩:∃n:Nat,m.lanes=n:=⟨m.lanes.toNat,by omega⟩;have HLL:=hd hL;have hL8:L<=8:=by omega
 rw[hL];clear hL;clear hc8;clear h hw hv hb0;go_enter func45,ntmps45
 go_wp2_with fail
 generalize w.alloc (.cells #[(11:Int),xk,d,a,b,c,xp,xn,xm] 76)=w0 at *;generalize hxb:w.heap.size=xbk at *;refine(HT.o _ HE0.o).mono ?_
 rintro e w1 ⟨Ra,lr,cr,Wa,lw,cw,rfl,hlr,hlw,hE1,hR,hWr,-,-⟩;have HE1:=hd (HE0.o.trans hE1);have HX1:=hd (HX.o.ext hE1 (by simp));have HLR:=hd hlr;have HLW:=hd hlw;have HR:=hd hR;have HWr:=hd hWr;clear hE1 hlr hlw hR hWr HT;have q3:=(HH.o.nil HE1.o).cell (i:=3) (by omega) (v:=m.lanes) rfl;have ql:=HH.o.lt;have ql1:=(HH.o.nil HE1.o).lt;have qxc:=HX1.o.cell;have qxl:=HX1.o.lt;go_wp2_with fail
 clear q3 ql1 qxc qxl;go_upto_region 21 with fail
 go_cut [7,8,9] (fun s7 s8 s9 wx=>Lb S w1 a b c s7 s8 s9 wx)
 case first=>
  have hC:=HH.o.nil HE1.o;have ql:=hC.lt;have va0:=hC.vcell ha8 (k:=0) (by omega);have va1:=hC.vcell ha8 (k:=1) (by omega);have va2:=hC.vcell ha8 (k:=2) (by omega);have va3:=hC.vcell ha8 (k:=3) (by omega);have va4:=hC.vcell ha8 (k:=4) (by omega);have va5:=hC.vcell ha8 (k:=5) (by omega);have va6:=hC.vcell ha8 (k:=6) (by omega);have va7:=hC.vcell ha8 (k:=7) (by omega);have vb0:=hC.vcell hb8 (k:=0) (by omega);have vb1:=hC.vcell hb8 (k:=1) (by omega);have vb2:=hC.vcell hb8 (k:=2) (by omega);have vb3:=hC.vcell hb8 (k:=3) (by omega);have vb4:=hC.vcell hb8 (k:=4) (by omega);have vb5:=hC.vcell hb8 (k:=5) (by omega);have vb6:=hC.vcell hb8 (k:=6) (by omega);have vb7:=hC.vcell hb8 (k:=7) (by omega);have vc0:=hC.vcell hc8' (k:=0) (by omega);have vc1:=hC.vcell hc8' (k:=1) (by omega);have vc2:=hC.vcell hc8' (k:=2) (by omega);have vc3:=hC.vcell hc8' (k:=3) (by omega);have vc4:=hC.vcell hc8' (k:=4) (by omega);have vc5:=hC.vcell hc8' (k:=5) (by omega);have vc6:=hC.vcell hc8' (k:=6) (by omega);have vc7:=hC.vcell hc8' (k:=7) (by omega);simp only[Nat.add_zero] at va0 vb0 vc0;have x3:w1.cell? ⟨xbk,3,none⟩=some (.int .i64 a):=HX1.o.cell 3;have x4:w1.cell? ⟨xbk,4,none⟩=some (.int .i64 b):=HX1.o.cell 4;have x5:w1.cell? ⟨xbk,5,none⟩=some (.int .i64 c):=HX1.o.cell 5;have qxl:=HX1.o.lt;clear hC;go_region_held3 (fun w'=>w'.cell? ⟨xbk,3,none⟩=some (.int .i64 a)/\w'.cell? ⟨xbk,4,none⟩=some (.int .i64 b)/\w'.cell? ⟨xbk,5,none⟩=some (.int .i64 c)/\w'.cell? ⟨A.c,26+a*8,none⟩=some (.int .i64 (S.v a 0))/\w'.cell? ⟨A.c,26+a*8+1,none⟩=some (.int .i64 (S.v a 1))/\w'.cell? ⟨A.c,26+a*8+2,none⟩=some (.int .i64 (S.v a 2))/\w'.cell? ⟨A.c,26+a*8+3,none⟩=some (.int .i64 (S.v a 3))/\w'.cell? ⟨A.c,26+a*8+4,none⟩=some (.int .i64 (S.v a 4))/\w'.cell? ⟨A.c,26+a*8+5,none⟩=some (.int .i64 (S.v a 5))/\w'.cell? ⟨A.c,26+a*8+6,none⟩=some (.int .i64 (S.v a 6))/\w'.cell? ⟨A.c,26+a*8+7,none⟩=some (.int .i64 (S.v a 7))/\w'.cell? ⟨A.c,26+b*8,none⟩=some (.int .i64 (S.v b 0))/\w'.cell? ⟨A.c,26+b*8+1,none⟩=some (.int .i64 (S.v b 1))/\w'.cell? ⟨A.c,26+b*8+2,none⟩=some (.int .i64 (S.v b 2))/\w'.cell? ⟨A.c,26+b*8+3,none⟩=some (.int .i64 (S.v b 3))/\w'.cell? ⟨A.c,26+b*8+4,none⟩=some (.int .i64 (S.v b 4))/\w'.cell? ⟨A.c,26+b*8+5,none⟩=some (.int .i64 (S.v b 5))/\w'.cell? ⟨A.c,26+b*8+6,none⟩=some (.int .i64 (S.v b 6))/\w'.cell? ⟨A.c,26+b*8+7,none⟩=some (.int .i64 (S.v b 7))/\w'.cell? ⟨A.c,26+c*8,none⟩=some (.int .i64 (S.v c 0))/\w'.cell? ⟨A.c,26+c*8+1,none⟩=some (.int .i64 (S.v c 1))/\w'.cell? ⟨A.c,26+c*8+2,none⟩=some (.int .i64 (S.v c 2))/\w'.cell? ⟨A.c,26+c*8+3,none⟩=some (.int .i64 (S.v c 3))/\w'.cell? ⟨A.c,26+c*8+4,none⟩=some (.int .i64 (S.v c 4))/\w'.cell? ⟨A.c,26+c*8+5,none⟩=some (.int .i64 (S.v c 5))/\w'.cell? ⟨A.c,26+c*8+6,none⟩=some (.int .i64 (S.v c 6))/\w'.cell? ⟨A.c,26+c*8+7,none⟩=some (.int .i64 (S.v c 7))) ((repeat' apply And.intro)<;>(try simp only[World.cell?_drew])<;>(repeat refine Adh _ ?_)<;>assumption) (fail)
  all_goals (go_wp2_with fail;go_meet;first|exact Lb.p0|exact Lb.p1|exact Lb.p2|exact Lb.p3|exact Lb.p4|exact Lb.p5)
 case rest=>
  obtain⟨p,q,r,rfl,rfl,rfl,hE2,hp,hq,hr,hBp,hBq,hBr⟩:=hcut;rename World=>wa
  have HE2:=hd (HE1.o.trans hE2);have HX2:=hd (HX1.o.ext hE2 (by simp));have HBp:=hd hBp;have HBq:=hd hBq;have HBr:=hd hBr;have hpc:p≠A.c:=fun e=>by rw[e] at hp;have:=HH.o.lt;have:=HE1.o.size;omega
  have hqc:q≠A.c:=fun e=>by rw[e] at hq;have:=HH.o.lt;have:=HE1.o.size;omega
  have hrc:r≠A.c:=fun e=>by rw[e] at hr;have:=HH.o.lt;have:=HE1.o.size;omega
  have HPC:=hd hpc;have HQC:=hd hqc;have HRC:=hd hrc;have HOP:=hd (fun(k:Nat) W=>Pl 11 xk d a b c xp xn xm (S.v (a:Nat) (k:Nat)) (S.v (b:Nat) (k:Nat)) (S.v (c:Nat) (k:Nat)) W (HV.o.ko (.inr rfl)) (HV.o.kc (.inr rfl)) HV.o.n HV.o.mm (HW.o.v _ _) (HW.o.v _ _) (HW.o.v _ _));clear hE2 hp hq hr hBp hBq hBr hpc hqc hrc;go_wp2_with fail
  rw[HLL.o];have hcx:A.c<xbk:=by rw[<-hxb];exact HH.o.lt
  go_loopw [157] (fun i wr=>∃k:Nat,i=.int .i64 k/\k<=L/\Hd (Aj A w wr)/\Hd (Ag wr A m xs {S with v:=Be S.v (d:Nat) fun j=>if 0<=j/\j<(k:Nat) then opS xk xn xm (S.v (a:Nat) j) (S.v (b:Nat) j) (S.v (c:Nat) j) else S.v (d:Nat) j })/\Hd (Blk wr xbk 76 #[(11:Int),xk,d,a,b,c,xp,xn,xm])/\Hd (Blk wr p 67 (Fa S a))/\Hd (Blk wr q 67 (Fa S b))/\Hd (Blk wr r 67 (Fa S c))) (fun i _=>(L-intOf i).toNat)
  case atStart=>exact⟨0,rfl,by omega,hd (Aj.of (A:=A) HE2.o (by simp)),hd (by
   have h1:=HH.o.nil HE2.o
   have h2:{S with v:=Be S.v (d:Nat) fun j=>if 0<=j/\j<((0:Nat):Int) then opS xk xn xm (S.v (a:Nat) j) (S.v (b:Nat) j) (S.v (c:Nat) j) else S.v (d:Nat) j }=S:=by
    have h3:(Be S.v (d:Nat) fun j=>if 0<=j/\j<((0:Nat):Int) then opS xk xn xm (S.v (a:Nat) j) (S.v (b:Nat) j) (S.v (c:Nat) j) else S.v (d:Nat) j)=S.v:=by
     funext i j
     unfold Be;by_cases hi:i=(d:Nat)
     ·rw[ijp hi,ijn (by omega),hi]
     ·rw[ijn hi]
    rw[h3]
   rw[h2];exact h1),HX2,HBp,HBq,HBr⟩
  case round=>
   obtain⟨k,rfl,hk,HEk,HCk,HXk,HPk,HQk,HRk⟩:=hrel;rename World=>wk
   by_cases hlt:k<L
   ·have hk8:k<8:=by omega
    have hkZ:((k:Nat):Int)<8:=by omega
    have HOk:=hd (HOP.o k);have HVa:=hd (Rj S a hk8);have HVb:=hd (Rj S b hk8);have HVc:=hd (Rj S c hk8);go_wp2_with fail
    refine rgE 18 [(14,Bv (.int .i64 (opS xk xn xm (S.v (a:Nat) (k:Nat)) (S.v (b:Nat) (k:Nat)) (S.v (c:Nat) (k:Nat)))))] ?_
    simp only[TK]
    repeat(refine dE (fun wr nr hJ=>by(have hC:=HCk.o.nil hJ;have qcl:=hC.lt;have qx:=HXk.o.ext hJ (by simp);have qxc:=qx.cell;have qxl:=qx.lt;clear qx hC;have qp:=HPk.o.ext hJ (by simp);have qpc:=qp.cell k;rw[HVa.o] at qpc;have qpl:=qp.lt;clear qp;have qq:=HQk.o.ext hJ (by simp);have qqc:=qq.cell k;rw[HVb.o] at qqc;have qql:=qq.lt;clear qq;have qr:=HRk.o.ext hJ (by simp);have qrc:=qr.cell k;rw[HVc.o] at qrc;have qrl:=qr.lt;clear qr);clear hJ;exact CL) ?_;simp only[PT])
    refine Bj rfl rfl ?_ ?_
    ·apply Exists.intro
     apply Exists.intro
     refine⟨fun wr=>?_,fun wr nr hJ=>?_⟩
     ·go_simp
      first|exact⟨rfl,rfl⟩|rfl
     ·exact(HOk.o _)
    simp only[PT]
    repeat(refine dE (fun wr nr hJ=>by(have hC:=HCk.o.nil hJ;have qcl:=hC.lt;have qx:=HXk.o.ext hJ (by simp);have qxc:=qx.cell;have qxl:=qx.lt;clear qx hC);clear hJ;exact CL) ?_;simp only[PT])
    refine Aa (fun w2 hJ hF=>?_)
    have HC2:=hd (HCk.o.nil hJ);have HX2:=hd (HXk.o.ext hJ (by simp));have HP2:=hd (HPk.o.ext hJ (by simp));have HQ2:=hd (HQk.o.ext hJ (by simp));have HR2:=hd (HRk.o.ext hJ (by simp));have HE2:=hd (HEk.o.trans (Aj.of (A:=A) hJ (by simp)));have q1:=HC2.o.vcell hd8 hk8;have q2:=HC2.o.chip.frozen (26+d*8+k);have q3:=HC2.o.lt
    have HC3:Hd (Ag (w2.setCell ⟨A.c,26+d*8+k,none⟩ (.int .i64 (opS xk xn xm (S.v (a:Nat) (k:Nat)) (S.v (b:Nat) (k:Nat)) (S.v (c:Nat) (k:Nat))))) A m xs {S with v:=Be S.v (d:Nat) fun j=>if 0<=j/\j<((k+1:Nat):Int) then opS xk xn xm (S.v (a:Nat) j) (S.v (b:Nat) j) (S.v (c:Nat) j) else S.v (d:Nat) j }):=hd (HC2.o.setV hd8 hk8 (opS xk xn xm (S.v (a:Nat) (k:Nat)) (S.v (b:Nat) (k:Nat)) (S.v (c:Nat) (k:Nat))) _ (fun i j hi hj=>by
     dsimp only;unfold Be;by_cases hid:i=d
     ·subst hid;rw[ijp rfl,ijp rfl];by_cases hjk:j=k
      ·subst hjk;rw[ijp ⟨by omega,by omega⟩,ijp ⟨rfl,rfl⟩]
      ·rw[ijn (c:=i=i/\j=k) (by omega)];by_cases hlt:j<k
       ·rw[ijp ⟨by omega,by omega⟩,ijp ⟨by omega,by omega⟩]
       ·rw[ijn (by omega),ijn (by omega)]
     ·rw[ijn (by omega),ijn (c:=i=d/\j=k) (by omega),ijn (by omega)]))
    have HE3:=hd (Aj.own HH.o HE2.o (26+d*8+k) (.int .i64 (opS xk xn xm (S.v (a:Nat) (k:Nat)) (S.v (b:Nat) (k:Nat)) (S.v (c:Nat) (k:Nat)))));have HX3:=hd (HX2.o.far (p:=⟨A.c,26+d*8+k,none⟩) (show xbk≠A.c by omega) (.int .i64 (opS xk xn xm (S.v (a:Nat) (k:Nat)) (S.v (b:Nat) (k:Nat)) (S.v (c:Nat) (k:Nat)))));have HP3:=hd (HP2.o.far (p:=⟨A.c,26+d*8+k,none⟩) HPC.o (.int .i64 (opS xk xn xm (S.v (a:Nat) (k:Nat)) (S.v (b:Nat) (k:Nat)) (S.v (c:Nat) (k:Nat)))));have HQ3:=hd (HQ2.o.far (p:=⟨A.c,26+d*8+k,none⟩) HQC.o (.int .i64 (opS xk xn xm (S.v (a:Nat) (k:Nat)) (S.v (b:Nat) (k:Nat)) (S.v (c:Nat) (k:Nat)))));have HR3:=hd (HR2.o.far (p:=⟨A.c,26+d*8+k,none⟩) HRC.o (.int .i64 (opS xk xn xm (S.v (a:Nat) (k:Nat)) (S.v (b:Nat) (k:Nat)) (S.v (c:Nat) (k:Nat)))));clear hF hJ;go_wp2_with fail
    go_roundw
    case rel=>exact⟨k+1,by go_num,by omega,HE3,HC3,HX3,HP3,HQ3,HR3⟩
    case measure=>simp[intOf];omega
   ·have hkL:k=L:=by omega
    subst hkL;go_wp2_with fail
    go_end0
    exact⟨rfl,HEk.o,HCk.o⟩
end Go.Proofs.YtkgmhggliifkjaaGreat
