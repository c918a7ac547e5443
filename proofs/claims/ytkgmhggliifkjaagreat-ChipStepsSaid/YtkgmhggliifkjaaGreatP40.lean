import Derived.Test.YtkgmhggliifkjaaGreatP38
import Derived.Test.YtkgmhggliifkjaaGreatP20
namespace Go.Proofs.YtkgmhggliifkjaaGreat
open Go.RowKit Go.Proofs.Tryz
set_option linter.all false
set_option maxHeartbeats 8000000
set_option maxRecDepth 100000
section
attribute [local irreducible] Ax
def Np (w:World)(B N j:Nat)(F:Nat->Int):Prop:=∃f,UpW w B 3 N f/\∀i,i<j->f i=.int .i64 (F i)
theorem Np.ext {w w':World}{B N j:Nat}{F:Nat->Int}{T:List Nat}(h:Np w B N j F)(hE:Ext T w w')(hB:B∉T):Np w' B N j F:=by obtain⟨f,h1,h2⟩:=h;exact⟨f,h1.ext hE hB,h2⟩
theorem Np.old {w:World}{B N j:Nat}{F:Nat->Int}(h:Np w B N j F){i:Nat}(hi:i<N):∃v,w.cell? ⟨B,i,none⟩=some v:=by obtain⟨f,h1,h2⟩:=h;exact⟨_,h1.cell hi⟩
theorem Np.lt {w:World}{B N j:Nat}{F:Nat->Int}(h:Np w B N j F):B<w.heap.size:=by obtain⟨f,h1,h2⟩:=h;exact h1.lt
theorem Np.frozen {w:World}{B N j:Nat}{F:Nat->Int}(h:Np w B N j F)(i:Nat):w.frozen? ⟨B,i,none⟩=false:=by obtain⟨f,h1,h2⟩:=h;exact h1.frozen i
theorem Np.set {w:World}{B N j:Nat}{F:Nat->Int}(h:Np w B N j F):Np (w.setCell ⟨B,j,none⟩ (.int .i64 (F j))) B N (j+1) F:=by
 obtain⟨f,h1,h2⟩:=h;refine⟨fun i=>if i=j then .int .i64 (F j) else f i,h1.set j _ (fun i _=>rfl),fun i hi=>?_⟩
 dsimp only;split
 ·rename_i e;rw[e]
 ·exact h2 i (by omega)
theorem Np.all {w:World}{B N:Nat}{F:Nat->Int}(h:Np w B N N F):UpW w B 3 N (fun k=>.int .i64 (F k)):=by obtain⟨f,h1,h2⟩:=h;exact h1.same (fun i hi=>(h2 i hi).symm)
theorem Aaz {w:World}{R:RA}{m:Mc}{xs:List Ins}{S:MS}(h:Ak w R m xs S)(hw:WfM m S)(xk xc xp xn xm:Int)(d a b:Nat)(hv:VI m ⟨11,xk,d,a,b,xc,xp,xn,xm⟩)(hb0:Cg m S (Ae m S ⟨11,xk,d,a,b,xc,xp,xn,xm⟩) (Ab m S ⟨11,xk,d,a,b,xc,xp,xn,xm⟩)=0)(Ra Wa:Option Addr)(lr cr lw cw:Nat)(hr:RdB w Ra (Ae m S ⟨11,xk,d,a,b,xc,xp,xn,xm⟩))(hws:RdB w Wa (Ab m S ⟨11,xk,d,a,b,xc,xp,xn,xm⟩))(hlr:(Ae m S ⟨11,xk,d,a,b,xc,xp,xn,xm⟩).length=lr)(hlw:(Ab m S ⟨11,xk,d,a,b,xc,xp,xn,xm⟩).length=lw) :
  Calls prog 54 #[.pointer (some R.A.c),.agg #[(11:Int),xk,d,a,b,xc,xp,xn,xm],.slice Ra lr cr,.slice Wa lw cw] w (Gp R m xs (Az m S ⟨11,xk,d,a,b,xc,xp,xn,xm⟩) w):=by
 have HEF:Hd (Az m S ⟨11,xk,d,a,b,xc,xp,xn,xm⟩={S with v:=Be S.v d (fun k=>if 0<=k/\k<m.lanes then opS xk xn xm (S.v a k) (S.v b k) (S.v xc k) else S.v d k) }):=hd (by simp[Az]);rw[HEF.o];have HH:=hd h;have HV:=hd hv;have HW:=hd hw;have HAR:=hd (Dq h.kd.ok hw hv hb0);have HB0:=hd hb0;have HR:=hd hr;have HWr:=hd hws;have HLR:=hd hlr;have HLW:=hd hlw;have hm:=Bc h.kd.ok;have hd16:d<16:=by have:=hv.d;dsimp only at this;omega
 have ha16:a<16:=by have:=hv.a;dsimp only at this;omega
 have hb16:b<16:=by have:=hv.b;dsimp only at this;omega
 have hdZ:((d:Nat):Int)<16:=by omega
 have haZ:((a:Nat):Int)<16:=by omega
 have hbZ:((b:Nat):Int)<16:=by omega
 obtain⟨N,hN⟩:∃N:Nat,N=m.lanes.toNat:=⟨_,rfl⟩;have hN2:2<=N/\N<=8:=by omega
 have HML:Hd (m.lanes=(N:Nat)):=hd (by omega);have HNL:=hd hN;have hd8:d<8:=by have:=hv.dv (by simp);dsimp only at this;omega
 have hd8Z:((d:Nat):Int)<8:=by omega
 have ha8:a<8:=by have:=hv.av (by simp);dsimp only at this;omega
 have hb8:b<8:=by have:=hv.bv (by simp);dsimp only at this;omega
 have ha8Z:((a:Nat):Int)<8:=by omega
 have hb8Z:((b:Nat):Int)<8:=by omega
 have hc:=hv.cv rfl;dsimp only at hc;obtain⟨c,rfl⟩:∃n:Nat,xc=n:=⟨xc.toNat,by omega⟩;have hc8:c<8:=by omega
 have hc8Z:((c:Nat):Int)<8:=by omega
 clear hc;have HO:=hd (fun(j:Nat) W=>Ov 11 xk d a b c xp xn xm (S.v (a:Nat) (j:Nat)) (S.v (b:Nat) (j:Nat)) (S.v (c:Nat) (j:Nat)) W (hv.ko (.inr rfl)) (hv.kc (.inr rfl)) hv.n (hw.v _ _) (hw.v _ _) (hw.v _ _));clear hN;clear h hw hv hb0 hr hws hlr hlw;have HP4:=hd (((Blk.new w 42 #[.pointer (some R.A.c)]).alloc (.cells #[(11:Int),xk,d,a,b,c,xp,xn,xm] 76)).alloc (.cells #[.slice Ra lr cr] 95));have HX1:=hd ((Blk.new' (w.alloc (.cells #[.pointer (some R.A.c)] 42)) 76 #[(11:Int),xk,d,a,b,c,xp,xn,xm] (w.heap.size+1) (by simp)).alloc (.cells #[.slice Ra lr cr] 95));have HP6:=hd (Blk.new' ((w.alloc (.cells #[.pointer (some R.A.c)] 42)).alloc (.cells #[(11:Int),xk,d,a,b,c,xp,xn,xm] 76)) 95 #[.slice Ra lr cr] (w.heap.size+1+1) (by simp));have HE1:=hd ((((Ext.refl [] w).alloc (.cells #[.pointer (some R.A.c)] 42)).alloc (.cells #[(11:Int),xk,d,a,b,c,xp,xn,xm] 76)).alloc (.cells #[.slice Ra lr cr] 95));go_enter func54,ntmps54
 go_upto_region 18 with fail
 generalize ((w.alloc (.cells #[.pointer (some R.A.c)] 42)).alloc (.cells #[(11:Int),xk,d,a,b,c,xp,xn,xm] 76)).alloc (.cells #[.slice Ra lr cr] 95)=w1 at *;generalize hxb:w.heap.size=xbk at *
 have hmi:∀W:World,(Instr.makeSlice 22 (.int .i64 N) (.int .i64 N)).run prog W=.ok (.slice (some W.heap.size) N N) (W.alloc (.cells (Dg N) 3)):=fun W=>
  run_make_row' 22 3 (.int .i64 0) 8 underlying22 (by kernel_rfl) rfl .i64 .i64 N (by omega) (by omega) W
 have HU0:=hd (Ge (Blk.new w1 3 (Dg N)));have HE0:=hd ((Ext.refl [] w1).alloc (.cells (Dg N) 3));have hC:=HH.o.nil HE1.o;have q4c:=HP4.o.cell;have q4l:=HP4.o.lt;have qn:=hC.cell (i:=3) (by omega) (v:=.int .i64 (N:Nat)) (by rw[<-HML.o];rfl);have qcl:=hC.lt;clear hC;go_wp2_with fail
 clear q4c q4l qn qcl hmi;go_loopw [123] (fun i wr=>∃j:Nat,i=.int .i64 j/\j<=N/\Hd (Ext [] w1 wr)/\Hd (Np wr w1.heap.size N j (fun(k:Nat)=>opS xk xn xm (S.v a (k:Nat)) (S.v b (k:Nat)) (S.v c (k:Nat))))) (fun i _=>(N-intOf i).toNat)
 case atStart=>exact⟨0,rfl,by omega,HE0,hd ⟨_,HU0.o,fun i hi=>by omega⟩⟩
 case round=>
  obtain⟨j,rfl,hj,HEj,HVj⟩:=hrel;rename World=>wq
  clear HE0 HU0;by_cases hlt:j<N
  ·have hjI:((j:Nat):Int)<(N:Nat):=by omega
   have hjL:j<m.lanes.toNat:=by rw[<-HNL.o];exact hlt
   have HEq:=hd (HE1.o.trans HEj.o);have HXq:=hd (HX1.o.ext HEj.o (by simp));have HP4q:=hd (HP4.o.ext HEj.o (by simp));go_wp2_with fail
   refine rgE 34 [(33,Bv (.int .i64 (opS xk xn xm (S.v (a:Nat) (j:Nat)) (S.v (b:Nat) (j:Nat)) (S.v (c:Nat) (j:Nat)))))] ?_
   simp only[TK]
   repeat(refine dE (fun wr nr hJ=>by(have hC:=HH.o.nil (HEq.o.trans hJ);have qcl:=hC.lt;have qx:=HXq.o.ext hJ (by simp);have qxc:=qx.cell;have qxl:=qx.lt;clear qx;have q4:=HP4q.o.ext hJ (by simp);have q4c:=q4.cell;have q4l:=q4.lt;clear q4;have qva:=hC.vcell ha8;have qvb:=hC.vcell hb8;have qvc:=hC.vcell hc8;rw[<-HNL.o] at qva qvb qvc;have qwa:=(hC.vec.v a ha8).1.cell hjL;have qwal:=(hC.vec.v a ha8).1.lt;have qwb:=(hC.vec.v b hb8).1.cell hjL;have qwbl:=(hC.vec.v b hb8).1.lt;have qwc:=(hC.vec.v c hc8).1.cell hjL;have qwcl:=(hC.vec.v c hc8).1.lt;clear hC);clear hJ;exact CL) ?_;simp only[PT])
   refine Bj rfl rfl ?_ ?_
   ·apply Exists.intro
    apply Exists.intro
    refine⟨fun wr=>?_,fun wr nr hJ=>?_⟩
    ·go_simp
     first|exact⟨rfl,rfl⟩|rfl
    ·exact(HO.o j _)
   simp only[PT];refine Aa (fun w4 hJ hF=>?_)
   have HE4:=hd (HEj.o.trans hJ);have HV4:=hd (HVj.o.ext hJ (by simp));obtain⟨v0,q0⟩:=HV4.o.old hlt;have q1:=HV4.o.frozen j;have q2:=HV4.o.lt;clear hF hJ;go_wp2_with fail
   clear q0 q1 q2;go_roundw
   case rel=>exact⟨j+1,by go_num,by omega,hd (Ext.setAt (.inr (Nat.le_refl _)) HE4.o),hd HV4.o.set⟩
   case measure=>simp[intOf];omega
  ·obtain rfl:j=N:=by omega
   have HEq:=hd (HE1.o.trans HEj.o);have HXq:=hd (HX1.o.ext HEj.o (by simp));have HP4q:=hd (HP4.o.ext HEj.o (by simp));go_wp2_with fail
   refine rgE 6 [] ?_
   simp only[TK]
   repeat(refine dE (fun wr nr hJ=>by(have hC:=HH.o.nil (HEq.o.trans hJ);have qcl:=hC.lt;have qx:=HXq.o.ext hJ (by simp);have qxc:=qx.cell;have qxl:=qx.lt;clear qx;have q4:=HP4q.o.ext hJ (by simp);have q4c:=q4.cell;have q4l:=q4.lt;clear q4;clear hC);clear hJ;exact CL) ?_;simp only[PT])
   refine Aa (fun w2 hJ hF=>?_)
   have hsz:=HE1.o.size;have fk3:=(HVj.o.ext hJ (by simp)).all;have HK:=hd ((HH.o.rekd (fun z=>if z=w1.heap.size then 8 else R.A.kd z) (fun z hz=>ijn (by omega))).nil (HEq.o.trans hJ));have HE2:=hd (HEq.o.trans hJ);have HC3:=hd (HK.o.setV d hd8 w1.heap.size j (fun k=>if 0<=k/\k<m.lanes then opS xk xn xm (S.v a k) (S.v b k) (S.v (c:Nat) k) else S.v d k) (by rw[<-HNL.o];exact fk3.same (fun k hk=>by have hML:=HML.o;rw[ijp (by omega)])) (ijp rfl) (by rw[<-HNL.o];exact Nat.le_refl _));rw[<-HNL.o] at HC3;have q1:=HK.o.vcell hd8;rw[<-HNL.o] at q1;have q2:=HK.o.ref.frozen (22+d);have q3:=HK.o.lt;dsimp only at q1 q2 q3;have HE3:Hd (Aj R.A w (w2.setCell ⟨R.A.c,22+d,none⟩ (.slice (some w1.heap.size) j j))):=hd ((Aj.of (A:=R.A) HE2.o (by simp)).trans (Aj.of (A:=R.A) (T:=[R.A.c]) (er.setCell (p:=⟨R.A.c,22+d,none⟩) (.inl (by simp)) _) (fun x hx=>by rw[ms hx,HH.o.kd.kc];omega)));have HKK:Hd (∀z,z<xbk->z≠w1.heap.size):=hd (fun z hz=>by omega);clear hF hJ fk3;go_wp2_with fail
   go_end0
   exact⟨rfl,_,HE3.o,HC3.o,rfl,fun z hz=>ijn (HKK.o z (by omega))⟩
end
section
attribute [local irreducible] Ax
def wtS (m:Mc)(S:MS)(rd:Nat->List Int)(c:Int):MS:={S with wt:=fun i k=>if 0<=i/\i<c/\0<=k/\k<m.lanes then(rd i.toNat).getD k.toNat 0 else S.wt i k }
theorem Afx (m:Mc)(S:MS)(rd:Nat->List Int):wtS m S rd ((0:Nat):Int)=S:=by
 unfold wtS
 have h:(fun i k=>if 0<=i/\i<((0:Nat):Int)/\0<=k/\k<m.lanes then(rd i.toNat).getD k.toNat 0 else S.wt i k)=S.wt:=by
  funext i k
  rw[ijn (by omega)]
 rw[h]
theorem Afy (m:Mc)(S:MS)(rd:Nat->List Int)(j:Nat):{wtS m S rd (j:Nat) with wt:=Be (wtS m S rd (j:Nat)).wt (j:Nat) (fun k=>if 0<=k/\k<m.lanes then(rd j).getD k.toNat 0 else S.wt (j:Nat) k) }=wtS m S rd ((j+1:Nat):Int):=by
 unfold wtS;dsimp only;congr 1
 funext i k
 unfold Be;by_cases hi:i=(j:Nat)
 ·subst hi;rw[ijp rfl];by_cases hk:0<=k/\k<m.lanes
  ·rw[ijp hk,ijp (by omega),Int.toNat_natCast]
  ·rw[ijn hk,ijn (by omega)]
 ·rw[ijn hi];change (if 0<=i/\i<((j:Nat):Int)/\0<=k/\k<m.lanes then _ else _)=_;by_cases hc:0<=i/\i<(j:Nat)/\0<=k/\k<m.lanes
  ·rw[ijp hc,ijp (by omega)]
  ·rw[ijn hc,ijn (by omega)]
theorem Aa0 {w:World}{R:RA}{m:Mc}{xs:List Ins}{S:MS}(h:Ak w R m xs S)(hw:WfM m S)(xk xc xp xn xm:Int)(d a b:Nat)(hv:VI m ⟨14,xk,d,a,b,xc,xp,xn,xm⟩)(hb0:Cg m S (Ae m S ⟨14,xk,d,a,b,xc,xp,xn,xm⟩) (Ab m S ⟨14,xk,d,a,b,xc,xp,xn,xm⟩)=0)(Ra Wa:Option Addr)(lr cr lw cw:Nat)(hr:RdB w Ra (Ae m S ⟨14,xk,d,a,b,xc,xp,xn,xm⟩))(hws:RdB w Wa (Ab m S ⟨14,xk,d,a,b,xc,xp,xn,xm⟩))(hsr:Src Ra lr cr)(hlr:(Ae m S ⟨14,xk,d,a,b,xc,xp,xn,xm⟩).length=lr)(hlw:(Ab m S ⟨14,xk,d,a,b,xc,xp,xn,xm⟩).length=lw) :
  Calls prog 54 #[.pointer (some R.A.c),.agg #[(14:Int),xk,d,a,b,xc,xp,xn,xm],.slice Ra lr cr,.slice Wa lw cw] w (Gp R m xs (Az m S ⟨14,xk,d,a,b,xc,xp,xn,xm⟩) w):=by
 have HEF:Hd (Az m S ⟨14,xk,d,a,b,xc,xp,xn,xm⟩=wtS m S (fun i=>S.words ((Ae m S ⟨14,xk,d,a,b,xc,xp,xn,xm⟩).getD i ⟨0,0,0⟩)) m.lanes):=hd (by simp[Az,wtS]);rw[HEF.o];have HH:=hd h;have HV:=hd hv;have HW:=hd hw;have HAR:=hd (Dq h.kd.ok hw hv hb0);have HB0:=hd hb0;have HR:=hd hr;have HWr:=hd hws;have HLR:=hd hlr;have HLW:=hd hlw;have hm:=Bc h.kd.ok;have hd16:d<16:=by have:=hv.d;dsimp only at this;omega
 have ha16:a<16:=by have:=hv.a;dsimp only at this;omega
 have hb16:b<16:=by have:=hv.b;dsimp only at this;omega
 have hdZ:((d:Nat):Int)<16:=by omega
 have haZ:((a:Nat):Int)<16:=by omega
 have hbZ:((b:Nat):Int)<16:=by omega
 obtain⟨N,hN⟩:∃N:Nat,N=m.lanes.toNat:=⟨_,rfl⟩;have hN2:2<=N/\N<=8:=by omega
 have HML:Hd (m.lanes=(N:Nat)):=hd (by omega);have HNL:=hd hN;have HRL:Hd (lr=N):=hd (by rw[<-hlr,hN];simp[Ae])
 have HRJ:Hd (∀j:Nat,j<N->∃ar,(Ae m S ⟨14,xk,d,a,b,xc,xp,xn,xm⟩)[j]? = some ar/\Su m ar/\ar.size=(N:Nat)/\(Ae m S ⟨14,xk,d,a,b,xc,xp,xn,xm⟩).getD j ⟨0,0,0⟩=ar):=hd (fun j hj=>by
  have hjl:j<(Ae m S ⟨14,xk,d,a,b,xc,xp,xn,xm⟩).length:=by rw[hlr,HRL.o];exact hj
  refine⟨_,List.getElem?_eq_getElem hjl,(HAR.o.1 _ (List.getElem_mem hjl)).1,?_,by rw[List.getD_eq_getElem?_getD,List.getElem?_eq_getElem hjl];rfl⟩
  have hm1:=List.getElem_mem hjl;generalize (Ae m S ⟨14,xk,d,a,b,xc,xp,xn,xm⟩)[j]=ar at hm1;unfold Ae at hm1;simp only[show ¬(14:Int)=5 by decide,show ¬(14:Int)=7 by decide,show ¬(14:Int)=9 by decide,if_false,if_true] at hm1;obtain⟨i,_,rfl⟩:=List.mem_map.1 hm1;exact HML.o)
 clear hN;have HSR:=hd hsr;clear hsr;clear h hw hv hb0 hr hws hlr hlw;have HP4:=hd (((Blk.new w 42 #[.pointer (some R.A.c)]).alloc (.cells #[(14:Int),xk,d,a,b,xc,xp,xn,xm] 76)).alloc (.cells #[.slice Ra lr cr] 95));have HX1:=hd ((Blk.new' (w.alloc (.cells #[.pointer (some R.A.c)] 42)) 76 #[(14:Int),xk,d,a,b,xc,xp,xn,xm] (w.heap.size+1) (by simp)).alloc (.cells #[.slice Ra lr cr] 95));have HP6:=hd (Blk.new' ((w.alloc (.cells #[.pointer (some R.A.c)] 42)).alloc (.cells #[(14:Int),xk,d,a,b,xc,xp,xn,xm] 76)) 95 #[.slice Ra lr cr] (w.heap.size+1+1) (by simp));have HE1:=hd ((((Ext.refl [] w).alloc (.cells #[.pointer (some R.A.c)] 42)).alloc (.cells #[(14:Int),xk,d,a,b,xc,xp,xn,xm] 76)).alloc (.cells #[.slice Ra lr cr] 95));go_enter func54,ntmps54
 go_upto_region 30 with fail
 generalize ((w.alloc (.cells #[.pointer (some R.A.c)] 42)).alloc (.cells #[(14:Int),xk,d,a,b,xc,xp,xn,xm] 76)).alloc (.cells #[.slice Ra lr cr] 95)=w1 at *;generalize hxb:w.heap.size=xbk at *;generalize hrd:(fun i=>S.words ((Ae m S ⟨14,xk,d,a,b,xc,xp,xn,xm⟩).getD i ⟨0,0,0⟩))=rd at *;have HRD:=hd hrd;have hC:=HH.o.nil HE1.o;have q4c:=HP4.o.cell;have q4l:=HP4.o.lt;have qw:=hC.cell (i:=30) (by omega) (v:=.slice (some R.A.eb) N R.wcap) (by rw[HNL.o];rfl);have qcl:=hC.lt;clear hC hrd;go_wp2_with fail
 clear q4c q4l qw qcl;go_loopw [217] (fun i wr=>∃(j:Nat) (R':RA),i=.int .i64 j/\j<=N/\Hd (Ext [R.A.eb] w1 wr)/\Hd (Ak wr R' m xs (wtS m S rd (j:Nat)))/\Hd (R'.A.c=R.A.c/\R'.A.eb=R.A.eb/\∀z,z<xbk->R'.A.kd z=R.A.kd z)) (fun i _=>(N-intOf i).toNat)
 case atStart=>exact⟨0,R,rfl,by omega,hd er,hd (by rw[Afx];exact HH.o.nil HE1.o),hd ⟨rfl,rfl,fun _ _=>rfl⟩⟩
 case round=>
  obtain⟨j,R',rfl,hj,HEj,HRj,HQj⟩:=hrel;rename World=>wq
  have HEB:Hd (R.A.eb<xbk):=hd (by rw[<-hxb];exact HH.o.vec.wo.lt);by_cases hlt:j<N
  ·have hjI:((j:Nat):Int)<(N:Nat):=by omega
   obtain⟨ar,ha1,ha2,ha3,ha4⟩:=HRJ.o j hlt;have HA1:=hd ha1;have HA2:=hd ha2;have HA3:=hd ha3;have HRDJ:Hd (rd j=S.words ar):=hd (by rw[<-HRD.o];dsimp only;rw[ha4]);clear ha1 ha2 ha3 ha4;have HP4q:=hd (HP4.o.ext HEj.o (by simp;have:=HEB.o;omega));have HP6q:=hd (HP6.o.ext HEj.o (by simp;have:=HEB.o;omega))
   have HR1q:Hd (RdB wq Ra (Ae m S ⟨14,xk,d,a,b,xc,xp,xn,xm⟩)):=hd ((HR.o.ext HE1.o (by simp)).ext HEj.o (fun aa haa hm=>by
    have hb1:aa.block=R.A.eb:=by simpa using hm
    rcases HSR.o with⟨h1,_⟩|⟨_,_,b0,h1⟩
    ·rw[h1] at haa;cases haa
    ·rw[h1] at haa;cases haa;dsimp only at hb1;subst hb1;rcases HR.o with h2|⟨b2,o2,h2,h3⟩
     ·have h4:=HLR.o;rw[h2] at h4;have h5:=HRL.o;simp at h4;omega
     ·rw[h1] at h2;cases h2
      obtain⟨ar0,h4⟩:∃ar0,(Ae m S ⟨14,xk,d,a,b,xc,xp,xn,xm⟩)[0]? = some ar0:=⟨_,List.getElem?_eq_getElem (by have:=HLR.o;have:=HRL.o;omega)⟩;have h5:=(h3 0 ar0 h4).1;have h6:=HH.o.vec.wo.cell (i:=0) (by rw[<-HNL.o];omega);rw[Nat.zero_mul,Nat.add_zero] at h5;rw[h5] at h6;cases h6))
   have hsz:w1.heap.size<=wq.heap.size:=HEj.o.size;go_wp2_with fail
   refine rgH 8 [(7,Eg wq.heap.size N (fun k=>.int .i64 ((rd j).getD k 0)))] ?_ ?_
   ·exact Ah.cons Eg.stays Ah.nil
   simp only[TK]
   repeat(refine dE (fun wr nr hJ=>by(have hC:=HRj.o.nil hJ.1;have qcl:=hC.lt;rw[HQj.o.1] at qcl;have q4:=HP4q.o.ext hJ.1 (by simp);have q4c:=q4.cell;have q4l:=q4.lt;clear q4;have qw:=hC.cell (i:=30) (by omega) (v:=.slice (some R'.A.eb) N R'.wcap) (by rw[HNL.o];rfl);rw[HQj.o.1,HQj.o.2.1] at qw;clear hC);clear hJ;exact CL) ?_;simp only[PT])
   refine Et (Eg wq.heap.size N (fun k=>.int .i64 ((rd j).getD k 0))) rfl rfl ?_ ?_
   ·apply Exists.intro
    apply Exists.intro
    refine⟨fun wr=>?_,fun wr nr hJ _=>?_⟩
    ·go_simp
     first|exact⟨rfl,rfl⟩|rfl
    ·refine(Md (HRj.o.nil hJ.1) j (xbk+1+1) xbk _ _ _ (Ae m S ⟨14,xk,d,a,b,xc,xp,xn,xm⟩) (HR1q.o.ext hJ.1 (by simp)) HLR.o (by have h9:=HRL.o;omega) ar HA1.o HA2.o (by rw[HA3.o];omega) ((HP6q.o.ext hJ.1 (by simp)).cell 0) (by rw[HQj.o.1];exact(HP4q.o.ext hJ.1 (by simp)).cell 0)).mono ?_
     rintro e w' ⟨g,c,rfl,hE,hO⟩;exact⟨(g,c),(by have h9:=HA3.o;show Ending.returned (.slice _ ar.size.toNat _)=_;rw[h9];rfl),(by have h9:=Ou hO (Hu _ _) (by rw[HA3.o];omega);rw[HA3.o] at h9;exact⟨nt hJ.1.size h9.2.1,h9.2.2,by rw[HRDJ.o];exact h9.1⟩),hE⟩
   intro (uk:Nat×Nat);simp only[PT];dsimp only[Eg];refine Aa (fun w2 hJ hF=>?_)
   have fk:(Eg wq.heap.size N (fun k=>.int .i64 ((rd j).getD k 0))).V uk w2:=hF 7;obtain⟨fk1,fk2,fk3⟩:=fk;have hwl:xbk<=w1.heap.size:=by rw[<-hxb];exact HE1.o.size
   have HK:=hd ((HRj.o.rekd (fun z=>if z=uk.1 then 8 else R'.A.kd z) (fun z hz=>ijn (by omega))).nil hJ.1);have HC3:=hd (HK.o.setW j (by rw[<-HNL.o];exact hlt) uk.1 uk.2 (fun k=>if 0<=k/\k<m.lanes then(rd j).getD k.toNat 0 else S.wt (j:Nat) k) (by rw[<-HNL.o];exact fk3.same (fun k hk=>by have hML:=HML.o;rw[ijp (by omega),Int.toNat_natCast])) (ijp rfl) (by rw[<-HNL.o];exact fk2));rw[Afy,<-HNL.o] at HC3;have q1:=HK.o.vec.wo.cell (i:=j) (by rw[<-HNL.o];exact hlt);have q2:=HK.o.vec.wo.frozen j;have q3:=HK.o.vec.wo.lt;dsimp only at q1 q2 q3 HC3;rw[HQj.o.2.1] at q1 q2 q3;have hw9:w2.setCell ⟨R'.A.eb,j,none⟩ (.slice (some uk.1) N uk.2)=w2.setCell ⟨R.A.eb,j,none⟩ (.slice (some uk.1) N uk.2):=by rw[HQj.o.2.1]
   rw[hw9] at HC3;clear hw9;have HE3:=hd ((HEj.o.trans (hJ.1.nil)).setAt (b:=R.A.eb) (i:=j) (u:=.slice (some uk.1) N uk.2) (.inl (by simp)));have HKK:Hd (∀z,z<xbk->z≠uk.1):=hd (fun z hz=>by omega);clear hF hJ fk1 fk2 fk3;go_wp2_with fail
   clear q1 q2 q3;go_roundw
   case rel=>exact⟨j+1,_,by go_num,by omega,HE3,HC3,hd ⟨HQj.o.1,HQj.o.2.1,fun z hz=>(ijn (HKK.o z hz)).trans (HQj.o.2.2 z hz)⟩⟩
   case measure=>simp[intOf];omega
  ·obtain rfl:j=N:=by omega
   go_wp2_with fail
   go_end0
   refine⟨rfl,R',(Aj.of (A:=R.A) HE1.o (by simp)).trans (Aj.of (A:=R.A) HEj.o (fun x hx=>by rw[ms hx,HH.o.kd.ke];omega)),?_,HQj.o.1,fun z hz=>HQj.o.2.2 z (by omega)⟩
   rw[HML.o];have h9:=HRD.o;rw[h9];exact HRj.o
end
section
attribute [local irreducible] Ax
def acM (S:MS)(a:Int)(L:Nat)(c:Int):MS:={S with acc:=fun k=>if 0<=k/\k<c then Hz (S.v a) (fun j=>S.wt j k) (S.acc k) L else S.acc k }
theorem Afz (S:MS)(a:Int)(L:Nat):acM S a L ((0:Nat):Int)=S:=by
 unfold acM
 have h:(fun k=>if 0<=k/\k<((0:Nat):Int) then Hz (S.v a) (fun j=>S.wt j k) (S.acc k) L else S.acc k)=S.acc:=by
  funext k
  rw[ijn (by omega)]
 rw[h]
theorem Af0 (S:MS)(a:Int)(L:Nat)(k:Nat):{acM S a L (k:Nat) with acc:=Be (acM S a L (k:Nat)).acc (k:Nat) (Hz (S.v a) (fun j=>S.wt j (k:Nat)) (S.acc (k:Nat)) L) }=acM S a L ((k+1:Nat):Int):=by
 unfold acM;dsimp only;congr 1
 funext j
 unfold Be;by_cases hj:j=(k:Nat)
 ·subst hj;rw[ijp rfl,ijp (by omega)]
 ·rw[ijn hj];change (if 0<=j/\j<((k:Nat):Int) then _ else _)=_;by_cases hc:0<=j/\j<(k:Nat)
  ·rw[ijp hc,ijp (by omega)]
  ·rw[ijn hc,ijn (by omega)]
theorem Aa1 {w:World}{R:RA}{m:Mc}{xs:List Ins}{S:MS}(h:Ak w R m xs S)(hw:WfM m S)(xk xc xp xn xm:Int)(d a b:Nat)(hv:VI m ⟨15,xk,d,a,b,xc,xp,xn,xm⟩)(hb0:Cg m S (Ae m S ⟨15,xk,d,a,b,xc,xp,xn,xm⟩) (Ab m S ⟨15,xk,d,a,b,xc,xp,xn,xm⟩)=0)(Ra Wa:Option Addr)(lr cr lw cw:Nat)(hr:RdB w Ra (Ae m S ⟨15,xk,d,a,b,xc,xp,xn,xm⟩))(hws:RdB w Wa (Ab m S ⟨15,xk,d,a,b,xc,xp,xn,xm⟩))(hlr:(Ae m S ⟨15,xk,d,a,b,xc,xp,xn,xm⟩).length=lr)(hlw:(Ab m S ⟨15,xk,d,a,b,xc,xp,xn,xm⟩).length=lw) :
  Calls prog 54 #[.pointer (some R.A.c),.agg #[(15:Int),xk,d,a,b,xc,xp,xn,xm],.slice Ra lr cr,.slice Wa lw cw] w (Gp R m xs (Az m S ⟨15,xk,d,a,b,xc,xp,xn,xm⟩) w):=by
 have HEF:Hd (Az m S ⟨15,xk,d,a,b,xc,xp,xn,xm⟩=acM S a m.lanes.toNat m.lanes):=hd (by simp[Az,acM]);rw[HEF.o];have HH:=hd h;have HV:=hd hv;have HW:=hd hw;have HAR:=hd (Dq h.kd.ok hw hv hb0);have HB0:=hd hb0;have HR:=hd hr;have HWr:=hd hws;have HLR:=hd hlr;have HLW:=hd hlw;have hm:=Bc h.kd.ok;have hd16:d<16:=by have:=hv.d;dsimp only at this;omega
 have ha16:a<16:=by have:=hv.a;dsimp only at this;omega
 have hb16:b<16:=by have:=hv.b;dsimp only at this;omega
 have hdZ:((d:Nat):Int)<16:=by omega
 have haZ:((a:Nat):Int)<16:=by omega
 have hbZ:((b:Nat):Int)<16:=by omega
 obtain⟨N,hN⟩:∃N:Nat,N=m.lanes.toNat:=⟨_,rfl⟩;have hN2:2<=N/\N<=8:=by omega
 have HML:Hd (m.lanes=(N:Nat)):=hd (by omega);have HNL:=hd hN;have ha8:a<8:=by have:=hv.av (by simp);dsimp only at this;omega
 have ha8Z:((a:Nat):Int)<8:=by omega
 clear hN;clear h hw hv hb0 hr hws hlr hlw;have HP4:=hd (((Blk.new w 42 #[.pointer (some R.A.c)]).alloc (.cells #[(15:Int),xk,d,a,b,xc,xp,xn,xm] 76)).alloc (.cells #[.slice Ra lr cr] 95));have HX1:=hd ((Blk.new' (w.alloc (.cells #[.pointer (some R.A.c)] 42)) 76 #[(15:Int),xk,d,a,b,xc,xp,xn,xm] (w.heap.size+1) (by simp)).alloc (.cells #[.slice Ra lr cr] 95));have HP6:=hd (Blk.new' ((w.alloc (.cells #[.pointer (some R.A.c)] 42)).alloc (.cells #[(15:Int),xk,d,a,b,xc,xp,xn,xm] 76)) 95 #[.slice Ra lr cr] (w.heap.size+1+1) (by simp));have HE1:=hd ((((Ext.refl [] w).alloc (.cells #[.pointer (some R.A.c)] 42)).alloc (.cells #[(15:Int),xk,d,a,b,xc,xp,xn,xm] 76)).alloc (.cells #[.slice Ra lr cr] 95));go_enter func54,ntmps54
 go_upto_region 36 with fail
 generalize ((w.alloc (.cells #[.pointer (some R.A.c)] 42)).alloc (.cells #[(15:Int),xk,d,a,b,xc,xp,xn,xm] 76)).alloc (.cells #[.slice Ra lr cr] 95)=w1 at *;generalize hxb:w.heap.size=xbk at *;have hC:=HH.o.nil HE1.o;have q4c:=HP4.o.cell;have q4l:=HP4.o.lt;have qa:=hC.cell (i:=31) (by omega) (v:=.slice (some R.ab) N N) (by rw[HNL.o];rfl);have qcl:=hC.lt;clear hC;go_wp2_with fail
 clear q4c q4l qa qcl;have HAB:Hd (R.ab<xbk):=hd (by rw[<-hxb];exact HH.o.vec.acc.lt);go_loopw [237] (fun i wr=>∃(k:Nat),i=.int .i64 k/\k<=N/\Hd (Ext [R.ab] w1 wr)/\Hd (Ak wr R m xs (acM S a N (k:Nat)))) (fun i _=>(N-intOf i).toNat)
 case atStart=>exact⟨0,rfl,by omega,hd er,hd (by rw[Afz];exact HH.o.nil HE1.o)⟩
 case round=>
  obtain⟨k,rfl,hk,HEk,HRk⟩:=hrel;rename World=>wk
  by_cases hlt:k<N
  ·have hkI:((k:Nat):Int)<(N:Nat):=by omega
   have hkL:k<m.lanes.toNat:=by rw[<-HNL.o];exact hlt
   have HP4k:=hd (HP4.o.ext HEk.o (by simp;have:=HAB.o;omega));have HXk:=hd (HX1.o.ext HEk.o (by simp;have:=HAB.o;omega));have q4c:=HP4k.o.cell;have q4l:=HP4k.o.lt;have qa:=HRk.o.cell (i:=31) (by omega) (v:=.slice (some R.ab) N N) (by rw[HNL.o];rfl);have qcl:=HRk.o.lt;have qk:=HRk.o.acell hkL;have qkl:=HRk.o.vec.acc.lt;have hk0:(acM S a N (k:Nat)).acc (k:Nat)=S.acc (k:Nat):=by unfold acM;dsimp only;rw[ijn (by omega)]
   rw[hk0] at qk;clear hk0;go_wp2_with fail
   clear q4c q4l qa qcl qk qkl;refine rgE 9 [] ?_
   simp only[TK]
   repeat(refine dE (fun wr nr hJ=>by(have hC:=HRk.o.nil hJ;have qcl:=hC.lt;have q4:=HP4k.o.ext hJ (by simp);have q4c:=q4.cell;have q4l:=q4.lt;clear q4;have qx:=HXk.o.ext hJ (by simp);have qxc:=qx.cell;have qxl:=qx.lt;clear qx;have qv:=hC.vcell ha8;rw[<-HNL.o] at qv;clear hC);clear hJ;exact CL) ?_;simp only[PT])
   refine Aa (fun w2 hJ hF=>?_)
   have HE2:=hd (HEk.o.trans hJ.nil);have HR2:=hd (HRk.o.nil hJ);have HP42:=hd (HP4k.o.ext hJ (by simp));clear hF hJ HRk HP4k HXk HEk;go_wp2_with fail
   go_loopw [13,255] (fun s i wr=>∃q:Nat,i=.int .i64 q/\s=.int .i64 (Hz (S.v (a:Nat)) (fun j=>S.wt j (k:Nat)) (S.acc (k:Nat)) q)/\q<=N/\wr=w2) (fun _ i _=>(N-intOf i).toNat)
   case atStart=>exact⟨0,rfl,rfl,by omega,rfl⟩
   case round=>
    obtain⟨q,rfl,rfl,hq,rfl⟩:=hrel;rename World=>w2
    by_cases hlq:q<N
    ·have hqI:((q:Nat):Int)<(N:Nat):=by omega
     have hqL:q<m.lanes.toNat:=by rw[<-HNL.o];exact hlq
     have hpw:=Ub (HW.o.v (a:Nat) (q:Nat)) (HW.o.wt (q:Nat) (k:Nat));have hsw:isW (Hz (S.v (a:Nat)) (fun j=>S.wt j (k:Nat)) (S.acc (k:Nat)) q):=Oy _ _ (HW.o.acc _) q;obtain⟨P,hP⟩:∃P,P=S.v (a:Nat) (q:Nat)*S.wt (q:Nat) (k:Nat):=⟨_,rfl⟩;rw[<-hP] at hpw;obtain⟨hp0,hp1⟩:=hpw;have hmu:IntKind.i64.wrap (S.v (a:Nat) (q:Nat)*S.wt (q:Nat) (k:Nat))=P:=by rw[<-hP];exact IntWalk.i64_in _ (by omega)
     obtain⟨U,hM⟩:∃U,U=Hz (S.v (a:Nat)) (fun j=>S.wt j (k:Nat)) (S.acc (k:Nat)) q:=⟨_,rfl⟩;have HMS:Hd (Hz (S.v (a:Nat)) (fun j=>S.wt j (k:Nat)) (S.acc (k:Nat)) (q+1)=w32 (U+w32 P)):=hd (by rw[hM,hP];rfl);rw[<-hM] at hsw;have hw3:=Hl P;unfold isW at hsw hw3;obtain⟨hs0,hs1⟩:=hsw;obtain⟨hw30,hw31⟩:=hw3;have hwa:IntKind.i64.wrap (U+w32 P)=U+w32 P:=IntWalk.i64_in _ (by omega);rw[<-hM];have HP:=hd hP;have HM:=hd hM;clear hP hM;have q4c:=HP42.o.cell;have q4l:=HP42.o.lt;have qv:=HR2.o.vcell ha8;rw[<-HNL.o] at qv;have qva:=(HR2.o.vec.v a ha8).1.cell hqL;have qval:=(HR2.o.vec.v a ha8).1.lt;have qcl:=HR2.o.lt;have qw:=HR2.o.cell (i:=30) (by omega) (v:=.slice (some R.A.eb) N R.wcap) (by rw[HNL.o];rfl);have qwo:=HR2.o.vec.wo.cell hqL;rw[<-HNL.o] at qwo;have qwol:=HR2.o.vec.wo.lt;have qwt:=(HR2.o.vec.wt q hqL).1.cell hkL;have qwtl:=(HR2.o.vec.wt q hqL).1.lt;have hv0:(acM S a N (k:Nat)).v=S.v:=rfl;have hw0:(acM S a N (k:Nat)).wt=S.wt:=rfl;rw[hv0] at qva;rw[hw0] at qwt;clear hv0 hw0;go_wp2_with fail
     refine(Fj _ _).mono ?_
     rintro e w3 ⟨rfl,rfl⟩;go_wp2_with fail
     refine(Fj _ _).mono ?_
     rintro e w3 ⟨rfl,rfl⟩;clear q4c q4l qv qva qval qcl qw qwo qwol qwt qwtl hmu hwa;go_wp2_with fail
     go_roundw
     case rel=>exact⟨q+1,by go_num,by rw[HMS.o],by omega,by first|trivial|rfl⟩
     case measure=>simp[intOf];omega
    ·obtain rfl:q=N:=by omega
     have q4c:=HP42.o.cell;have q4l:=HP42.o.lt;have qa:=HR2.o.cell (i:=31) (by omega) (v:=.slice (some R.ab) q q) (by rw[HNL.o];rfl);have qcl:=HR2.o.lt;have qk:=HR2.o.acell hkL;have qkf:=HR2.o.vec.acc.frozen k;have qkl:=HR2.o.vec.acc.lt;have HE3:=hd (HE2.o.setAt (b:=R.ab) (i:=k) (u:=.int .i64 (Hz (S.v (a:Nat)) (fun j=>S.wt j (k:Nat)) (S.acc (k:Nat)) q)) (.inl (by simp)));have HC3:=hd (HR2.o.setSum k hkL (Hz (S.v (a:Nat)) (fun j=>S.wt j (k:Nat)) (S.acc (k:Nat)) q));rw[Af0] at HC3;go_wp2_with fail
     clear q4c q4l qa qcl qk qkf qkl;go_roundw
     case rel=>exact⟨k+1,by go_num,by omega,HE3,HC3⟩
     case measure=>simp[intOf];omega
  ·obtain rfl:k=N:=by omega
   go_wp2_with fail
   go_end0
   refine⟨rfl,R,(Aj.of (A:=R.A) HE1.o (by simp)).trans (Aj.of (A:=R.A) HEk.o (fun x hx=>by rw[ms hx,HH.o.vec.ak];omega)),?_,rfl,fun z hz=>rfl⟩
   rw[<-HNL.o,HML.o];exact HRk.o
end
section
attribute [local irreducible] Ax
def Vs (m:Mc)(S:MS)(x:Ins):MS:=
 if x.op=18 then {S with q:=Be S.q x.d (some ⟨(Ae m S x).getD 0 ⟨0,0,0⟩,(Ab m S x).getD 0 ⟨0,0,0⟩,S.words ((Ae m S x).getD 0 ⟨0,0,0⟩),S.cyc+8+x.m⟩) } else Az m S x
section
variable {w w':World} {R:RA} {m:Mc} {xs:List Ins} {S:MS} {T:List Nat} {x:Ins}
theorem Af1 (m:Mc)(S:MS)(x:Ins)(c:Int)(hc:c=S.cyc+Bx m.lanes x):Vs m {S with cyc:=c } x={Az m S x with cyc:=(Az m S x).cyc+Bx m.lanes x }:=by
 subst hc;unfold Vs Az;by_cases h18:x.op=18
 ·simp only[h18,if_true];simp[Ae,Ab,MS.words,h18]
 ·rw[ijn h18];dsimp only;by_cases c:x.op=1
  ·simp only[ijp c]<;>rfl
  simp only[ijn c];clear c;by_cases c:x.op=2
  ·simp only[ijp c]<;>rfl
  simp only[ijn c];clear c;by_cases c:x.op=5\/x.op=7
  ·simp only[ijp c]<;>rfl
  simp only[ijn c];clear c;by_cases c:x.op=6\/x.op=8
  ·simp only[ijp c]<;>rfl
  simp only[ijn c];clear c;by_cases c:x.op=9
  ·simp only[ijp c]<;>rfl
  simp only[ijn c];clear c;by_cases c:x.op=10
  ·simp only[ijp c]<;>rfl
  simp only[ijn c];clear c;by_cases c:x.op=11
  ·simp only[ijp c]<;>rfl
  simp only[ijn c];clear c;by_cases c:x.op=12
  ·simp only[ijp c]<;>rfl
  simp only[ijn c];clear c;by_cases c:x.op=13
  ·simp only[ijp c]<;>rfl
  simp only[ijn c];clear c;by_cases c:x.op=14
  ·simp only[ijp c]<;>rfl
  simp only[ijn c];clear c;by_cases c:x.op=15
  ·simp only[ijp c]<;>rfl
  simp only[ijn c];clear c;by_cases c:x.op=16
  ·simp only[ijp c]<;>rfl
  simp only[ijn c];clear c;by_cases c:x.op=17
  ·simp only[ijp c]<;>rfl
  simp only[ijn c];clear c;simp only[ijn h18]
theorem Ak.startQ (h:Ak w R m xs S)(d:Nat)(t:Tr)(g cap:Nat)(hk:R.A.kd g=8)(hgl:g<w.heap.size)(hwd:RdW w (some g) t.words)(hc:t.words.length<=cap)(hE:Ext [R.A.qb] w w')(hM:Hg w' R.A.qb (Be (tf R S) (d:Nat) (some (Nb t (some g) cap)))) :
  Ak w' {R with A:={R.A with ta:=Be R.A.ta (d:Nat) (some g),tc:=Be R.A.tc (d:Nat) cap } } m xs {S with q:=Be S.q (d:Nat) (some t) }:=by
 have hT:∀x∈[R.A.qb],R.A.kd x=4:=fun x hx=>by rw[ms hx];exact h.kd.kq
 refine h.queT hE (Be S.q (d:Nat) (some t)) _ _ ⟨?_,fun q u hq=>?_⟩
 ·have e:tf {R with A:={R.A with ta:=Be R.A.ta (d:Nat) (some g),tc:=Be R.A.tc (d:Nat) cap } } {S with q:=Be S.q (d:Nat) (some t) }=Be (tf R S) (d:Nat) (some (Nb t (some g) cap)):=by
   funext i
   unfold tf;dsimp only;by_cases hi:i=d
   ·subst hi;rw[Bt,Bt,Bt,Bt];rfl
   ·rw[Cw _ _ hi,Cw _ _ hi,Cw _ _ hi,Cw _ _ hi]
  show Hg w' R.A.qb (tf _ _)
  rw[e];exact hM
 ·dsimp only at hq⊢;by_cases hqd:q=d
  ·subst hqd;rw[Bt] at hq;cases hq;rw[Bt,Bt];refine⟨hwd.ext hE (fun a ha hm=>?_),hc,fun a ha=>?_⟩
   ·cases ha;have h0:=hT _ hm;dsimp only at h0;omega
   ·cases ha;exact⟨hk,nl hgl hE.size⟩
  ·rw[Cw _ _ hqd] at hq;rw[Cw _ _ hqd,Cw _ _ hqd];obtain⟨h1,h2,h3⟩:=h.que.words q u hq;exact⟨h1.ext hE (fun a ha hm=>by have h0:=hT _ hm;have:=h3 a ha;omega),h2,fun a ha=>⟨(h3 a ha).1,nl (h3 a ha).2 hE.size⟩⟩
end
theorem Rx {w:World}{R:RA}{m:Mc}{xs:List Ins}{S:MS}(h:Ak w R m xs S)(hw:WfM m S)(xk xc xp xn xm:Int)(d a b:Nat)(hv:VI m ⟨18,xk,d,a,b,xc,xp,xn,xm⟩)(hb0:Cg m S (Ae m S ⟨18,xk,d,a,b,xc,xp,xn,xm⟩) (Ab m S ⟨18,xk,d,a,b,xc,xp,xn,xm⟩)=0)(Ra Wa:Option Addr)(lr cr lw cw:Nat)(hr:RdB w Ra (Ae m S ⟨18,xk,d,a,b,xc,xp,xn,xm⟩))(hws:RdB w Wa (Ab m S ⟨18,xk,d,a,b,xc,xp,xn,xm⟩))(hcy:0<=S.cyc/\S.cyc<=1000000000000)(sa da:Ar)(hra:Ae m S ⟨18,xk,d,a,b,xc,xp,xn,xm⟩=[sa])(hwa:Ab m S ⟨18,xk,d,a,b,xc,xp,xn,xm⟩=[da])(hlr:(Ae m S ⟨18,xk,d,a,b,xc,xp,xn,xm⟩).length=lr)(hlw:(Ab m S ⟨18,xk,d,a,b,xc,xp,xn,xm⟩).length=lw) :
  Calls prog 54 #[.pointer (some R.A.c),.agg #[(18:Int),xk,d,a,b,xc,xp,xn,xm],.slice Ra lr cr,.slice Wa lw cw] w (Gp R m xs (Vs m S ⟨18,xk,d,a,b,xc,xp,xn,xm⟩) w):=by
 have HEF:Hd (Vs m S ⟨18,xk,d,a,b,xc,xp,xn,xm⟩={S with q:=Be S.q d (some ⟨sa,da,S.words sa,S.cyc+8+xm⟩) }):=hd (by unfold Vs;simp[hra,hwa]);rw[HEF.o];have HH:=hd h;have HV:=hd hv;have HW:=hd hw;have HAR:=hd (Dq h.kd.ok hw hv hb0);have HB0:=hd hb0;have HR:=hd hr;have HWr:=hd hws;have HLR:=hd hlr;have HLW:=hd hlw;have hm:=Bc h.kd.ok;have hd16:d<16:=by have:=hv.d;dsimp only at this;omega
 have ha16:a<16:=by have:=hv.a;dsimp only at this;omega
 have hb16:b<16:=by have:=hv.b;dsimp only at this;omega
 have hdZ:((d:Nat):Int)<16:=by omega
 have haZ:((a:Nat):Int)<16:=by omega
 have hbZ:((b:Nat):Int)<16:=by omega
 obtain⟨N,hN⟩:∃N:Nat,N=m.lanes.toNat:=⟨_,rfl⟩;have hN2:2<=N/\N<=8:=by omega
 have HML:Hd (m.lanes=(N:Nat)):=hd (by omega);have HNL:=hd hN;have HAR1:=hd (HAR.o.1 sa (by rw[hra];simp));have HAO:=HAR1;have HAD:=hd (HAR.o.2 da (by rw[hwa];simp));have HER:=hd hra;have HEW:=hd hwa;have hq:=hv.q (by simp);have hmm:=hv.mm;dsimp only at hq hmm;have hd3:d<=3:=by omega
 obtain⟨n,hn⟩:∃n:Nat,sa.size=n:=⟨sa.size.toNat,by have:=HAR1.o.1.2.1;omega⟩;have HSN:=hd hn;have hn1:1<=n:=by have:=HAR1.o.1.2.1;omega
 have hn2:n<=4096:=by have:=HAR1.o.2;omega
 have HWL:Hd ((S.words sa).length=n):=hd (by rw[Hu,hn];rfl);obtain⟨rdy,hrdy⟩:∃z,z=S.cyc+8+xm:=⟨_,rfl⟩;have HRDY:=hd hrdy;obtain⟨cy,hcye⟩:∃z,z=S.cyc:=⟨_,rfl⟩;rw[<-hcye] at hcy;have HCYE:=hd hcye;clear hra hwa hq hn hrdy hcye HAR1;clear hN;clear h hw hv hb0 hr hws hlr hlw;have HP4:=hd (((Blk.new w 42 #[.pointer (some R.A.c)]).alloc (.cells #[(18:Int),xk,d,a,b,xc,xp,xn,xm] 76)).alloc (.cells #[.slice Ra lr cr] 95));have HX1:=hd ((Blk.new' (w.alloc (.cells #[.pointer (some R.A.c)] 42)) 76 #[(18:Int),xk,d,a,b,xc,xp,xn,xm] (w.heap.size+1) (by simp)).alloc (.cells #[.slice Ra lr cr] 95));have HP6:=hd (Blk.new' ((w.alloc (.cells #[.pointer (some R.A.c)] 42)).alloc (.cells #[(18:Int),xk,d,a,b,xc,xp,xn,xm] 76)) 95 #[.slice Ra lr cr] (w.heap.size+1+1) (by simp));have HE1:=hd ((((Ext.refl [] w).alloc (.cells #[.pointer (some R.A.c)] 42)).alloc (.cells #[(18:Int),xk,d,a,b,xc,xp,xn,xm] 76)).alloc (.cells #[.slice Ra lr cr] 95));go_enter func54,ntmps54
 go_upto_region 52 with fail
 generalize ((w.alloc (.cells #[.pointer (some R.A.c)] 42)).alloc (.cells #[(18:Int),xk,d,a,b,xc,xp,xn,xm] 76)).alloc (.cells #[.slice Ra lr cr] 95)=w1 at *;generalize hxb:w.heap.size=xbk at *;have hR1:=HR.o;rw[HER.o] at hR1;have hlr1:lr=1:=by rw[<-HLR.o,HER.o];rfl
 subst hlr1;obtain⟨rb,ro,rfl,hrb,hr0,hr1,hr2⟩:=hR1.at (k:=0) rfl;simp only[Nat.zero_mul,Nat.add_zero] at hr0 hr1 hr2;have HR0:=hd (HE1.o.held hr0 (by simp));have HR1:=hd (HE1.o.held hr1 (by simp));have HR2:=hd (HE1.o.held hr2 (by simp));have HRB:Hd (rb<w1.heap.size):=hd (nl hrb HE1.o.size);have hW1:=HWr.o;rw[HEW.o] at hW1;have hlw1:lw=1:=by rw[<-HLW.o,HEW.o];rfl
 subst hlw1;obtain⟨wb,wo,rfl,hwb,hw0,hw1,hw2⟩:=hW1.at (k:=0) rfl;simp only[Nat.zero_mul,Nat.add_zero] at hw0 hw1 hw2;have HW0:=hd (HE1.o.held hw0 (by simp));have HW1:=hd (HE1.o.held hw1 (by simp));have HW2:=hd (HE1.o.held hw2 (by simp));have HWB:Hd (wb<w1.heap.size):=hd (nl hwb HE1.o.size);clear hr0 hr1 hr2 hR1 hrb hw0 hw1 hw2 hW1 hwb;refine rgH 23 [(13,Eg w1.heap.size n (fun k=>.int .i64 ((S.words sa).getD k 0)))] ?_ ?_
 ·exact Ah.cons Eg.stays Ah.nil
 simp only[TK]
 repeat(refine dE (fun wr nr hJ=>by(have hC:=HH.o.nil (HE1.o.trans hJ.1);have qcl:=hC.lt;have qx:=HX1.o.ext hJ.1 (by simp);have qxc:=qx.cell;have qxl:=qx.lt;clear qx;have q4:=HP4.o.ext hJ.1 (by simp);have q4c:=q4.cell;have q4l:=q4.lt;clear q4;have q6:=HP6.o.ext hJ.1 (by simp);have q6c:=q6.cell;have q6l:=q6.lt;clear q6;have c0:=hJ.1.held HR0.o (by simp);have c1:=hJ.1.held HR1.o (by simp);have c2:=hJ.1.held HR2.o (by simp);have cl:rb<wr.heap.size:=nl HRB.o hJ.1.size;have e0:=hJ.1.held HW0.o (by simp);have e1:=hJ.1.held HW1.o (by simp);have e2:=hJ.1.held HW2.o (by simp);have el:wb<wr.heap.size:=nl HWB.o hJ.1.size;have qq:=hC.cell (i:=35) (by omega) (v:=.map (some R.A.qb)) rfl;clear hC);clear hJ;exact CL) ?_;simp only[PT])
 refine Et (Eg w1.heap.size n (fun k=>.int .i64 ((S.words sa).getD k 0))) rfl rfl ?_ ?_
 ·apply Exists.intro
  apply Exists.intro
  refine⟨fun wr=>?_,fun wr nr hJ _=>?_⟩
  ·go_simp
   first|exact⟨rfl,rfl⟩|rfl
  ·refine(Md (HH.o.nil (HE1.o.trans hJ.1)) 0 (xbk+1+1) xbk _ _ _ (Ae m S ⟨18,xk,d,a,b,xc,xp,xn,xm⟩) (HR.o.ext (HE1.o.trans hJ.1) (by simp)) HLR.o (by have h9:=HLR.o;rw[HER.o] at h9;simp at h9;omega) sa (by rw[HER.o];rfl) HAO.o.1 HAO.o.2 ((HP6.o.ext hJ.1 (by simp)).cell 0) ((HP4.o.ext hJ.1 (by simp)).cell 0)).mono ?_
   rintro e w' ⟨g,c,rfl,hE,hO⟩;exact⟨(g,c),(by have h9:=HSN.o;show Ending.returned (.slice _ sa.size.toNat _)=_;rw[h9];rfl),(by have h9:=Ou hO (Hu _ _) (by have:=HSN.o;omega);rw[HSN.o] at h9;exact⟨nt hJ.1.size h9.2.1,h9.2.2,h9.1⟩),hE⟩
 intro (uk:Nat×Nat);simp only[PT];dsimp only[Eg]
 repeat(refine dE (fun wr nr hJ=>by(have hC:=HH.o.nil (HE1.o.trans hJ.1);have qcl:=hC.lt;have qx:=HX1.o.ext hJ.1 (by simp);have qxc:=qx.cell;have qxl:=qx.lt;clear qx;have q4:=HP4.o.ext hJ.1 (by simp);have q4c:=q4.cell;have q4l:=q4.lt;clear q4;have qcy:=hC.cell (i:=38) (by omega) (v:=cy) (by rw[HCYE.o];rfl);clear hC);clear hJ;exact CL) ?_;simp only[PT])
 refine Aa (fun w2 hJ hF=>?_)
 have fk:(Eg w1.heap.size n (fun k=>.int .i64 ((S.words sa).getD k 0))).V uk w2:=hF 13;obtain⟨fk1,fk2,fk3⟩:=fk;have hsz:=HE1.o.size;have HK:=hd ((HH.o.rekd (fun z=>if z=uk.1 then 8 else R.A.kd z) (fun z hz=>ijn (by omega))).nil (HE1.o.trans hJ.1));have HE2:=hd (HE1.o.trans hJ.1);have HUP:=hd fk3;have HUC:=hd fk2;have HKK:Hd (∀z,z<xbk->z≠uk.1):=hd (fun z hz=>by omega);clear hF hJ fk1 fk2 fk3
 have HWD:Hd (RdW w2 (some uk.1) (S.words sa)):=hd (.inr ⟨uk.1,0,rfl,fun k x hx=>by
  have hk:k<n:=by have h1:=(ils hx).1;have h2:=HWL.o;omega
  rw[Nat.zero_add,HUP.o.cell hk,List.getD_eq_getElem?_getD,hx];rfl⟩)
 go_wp2_with (
  refine Oo _ rfl _ _ _ rfl R.A.qb (tf R S) rfl HK.o.que.map d _ rfl rfl (by omega) ?_
  intro w3 hT3 hE3;have HT3:=hd hT3;have HE3:=hd hE3;clear hT3 hE3)
 go_end0
 have hrd:=HRDY.o;rw[HCYE.o] at *
 have HC3:=HK.o.startQ d ⟨sa,da,S.words sa,S.cyc+8+xm⟩ uk.1 uk.2 (ijp rfl) HUP.o.lt HWD.o (by show(S.words sa).length<=_;rw[HWL.o];exact HUC.o) HE3.o (by
  have h9:=HT3.o;have h8:Nb ⟨sa,da,S.words sa,S.cyc+8+xm⟩ (some uk.1) uk.2=.agg #[.int .i64 sa.bank,.int .i64 sa.lo,(sa.lo+sa.size),.int .i64 da.bank,.int .i64 da.lo,(da.lo+da.size),.slice (some uk.1) n uk.2,(S.cyc+8+xm)]:=by unfold Nb;rw[HWL.o]
  rw[h8];exact h9)
 refine⟨rfl,_,(Aj.of (A:=R.A) HE2.o (by simp)).trans (Aj.of (A:=R.A) HE3.o (fun x hx=>by rw[ms hx,HH.o.kd.kq];omega)),HC3,rfl,fun z hz=>ijn (HKK.o z (by omega))⟩
end
section
attribute [local irreducible] Ax
theorem Aa2 {w:World}{R:RA}{m:Mc}{xs:List Ins}{S:MS}(h:Ak w R m xs S)(hw:WfM m S)(xk xc xp xn xm:Int)(d a b:Nat)(hv:VI m ⟨19,xk,d,a,b,xc,xp,xn,xm⟩)(hb0:Cg m S (Ae m S ⟨19,xk,d,a,b,xc,xp,xn,xm⟩) (Ab m S ⟨19,xk,d,a,b,xc,xp,xn,xm⟩)=0)(Ra Wa:Option Addr)(lr cr lw cw:Nat)(hr:RdB w Ra (Ae m S ⟨19,xk,d,a,b,xc,xp,xn,xm⟩))(hws:RdB w Wa (Ab m S ⟨19,xk,d,a,b,xc,xp,xn,xm⟩))(hlr:(Ae m S ⟨19,xk,d,a,b,xc,xp,xn,xm⟩).length=lr)(hlw:(Ab m S ⟨19,xk,d,a,b,xc,xp,xn,xm⟩).length=lw) :
  Calls prog 54 #[.pointer (some R.A.c),.agg #[(19:Int),xk,d,a,b,xc,xp,xn,xm],.slice Ra lr cr,.slice Wa lw cw] w (Gp R m xs (Az m S ⟨19,xk,d,a,b,xc,xp,xn,xm⟩) w):=by
 have HEF:Hd (Az m S ⟨19,xk,d,a,b,xc,xp,xn,xm⟩=S):=hd (by simp[Az]);rw[HEF.o];have HH:=hd h;have HV:=hd hv;have HW:=hd hw;have HAR:=hd (Dq h.kd.ok hw hv hb0);have HB0:=hd hb0;have HR:=hd hr;have HWr:=hd hws;have HLR:=hd hlr;have HLW:=hd hlw;have hm:=Bc h.kd.ok;have hd16:d<16:=by have:=hv.d;dsimp only at this;omega
 have ha16:a<16:=by have:=hv.a;dsimp only at this;omega
 have hb16:b<16:=by have:=hv.b;dsimp only at this;omega
 have hdZ:((d:Nat):Int)<16:=by omega
 have haZ:((a:Nat):Int)<16:=by omega
 have hbZ:((b:Nat):Int)<16:=by omega
 obtain⟨N,hN⟩:∃N:Nat,N=m.lanes.toNat:=⟨_,rfl⟩;have hN2:2<=N/\N<=8:=by omega
 have HML:Hd (m.lanes=(N:Nat)):=hd (by omega);have HNL:=hd hN;clear hN;clear h hw hv hb0 hr hws hlr hlw;have HP4:=hd (((Blk.new w 42 #[.pointer (some R.A.c)]).alloc (.cells #[(19:Int),xk,d,a,b,xc,xp,xn,xm] 76)).alloc (.cells #[.slice Ra lr cr] 95));have HX1:=hd ((Blk.new' (w.alloc (.cells #[.pointer (some R.A.c)] 42)) 76 #[(19:Int),xk,d,a,b,xc,xp,xn,xm] (w.heap.size+1) (by simp)).alloc (.cells #[.slice Ra lr cr] 95));have HP6:=hd (Blk.new' ((w.alloc (.cells #[.pointer (some R.A.c)] 42)).alloc (.cells #[(19:Int),xk,d,a,b,xc,xp,xn,xm] 76)) 95 #[.slice Ra lr cr] (w.heap.size+1+1) (by simp));have HE1:=hd ((((Ext.refl [] w).alloc (.cells #[.pointer (some R.A.c)] 42)).alloc (.cells #[(19:Int),xk,d,a,b,xc,xp,xn,xm] 76)).alloc (.cells #[.slice Ra lr cr] 95));go_enter func54,ntmps54
 go_wp2_with fail
 go_end0
 refine⟨rfl,R,Aj.of (A:=R.A) HE1.o (by simp),HH.o.nil HE1.o,rfl,fun _ _=>rfl⟩
theorem Dv {m:Mc}{S:MS}{x:Ins}(h:x.op≠18):Vs m S x=Az m S x:=by unfold Vs;rw[ijn h]
theorem Ym {w:World}{R:RA}{m:Mc}{xs:List Ins}{S:MS}(h:Ak w R m xs S)(hw:WfM m S)(xo xk xd xa xb xc xp xn xm:Int)(hv:VI m ⟨xo,xk,xd,xa,xb,xc,xp,xn,xm⟩)(h34:xo≠3/\xo≠4)(hcy:0<=S.cyc/\S.cyc<=1000000000000)(hb0:Cg m S (Ae m S ⟨xo,xk,xd,xa,xb,xc,xp,xn,xm⟩) (Ab m S ⟨xo,xk,xd,xa,xb,xc,xp,xn,xm⟩)=0)(Ra Wa:Option Addr)(lr cr lw cw:Nat)(hr:RdB w Ra (Ae m S ⟨xo,xk,xd,xa,xb,xc,xp,xn,xm⟩))(hws:RdB w Wa (Ab m S ⟨xo,xk,xd,xa,xb,xc,xp,xn,xm⟩))(hs1:Src Ra lr cr)(hlr:(Ae m S ⟨xo,xk,xd,xa,xb,xc,xp,xn,xm⟩).length=lr)(hlw:(Ab m S ⟨xo,xk,xd,xa,xb,xc,xp,xn,xm⟩).length=lw) :
  Calls prog 54 #[.pointer (some R.A.c),.agg #[xo,xk,xd,xa,xb,xc,xp,xn,xm],.slice Ra lr cr,.slice Wa lw cw] w (Gp R m xs (Vs m S ⟨xo,xk,xd,xa,xb,xc,xp,xn,xm⟩) w):=by
 have hd0:=hv.d;have ha0:=hv.a;have hbb:=hv.b;have ho:=hv.op;dsimp only at hd0 ha0 hbb ho;obtain⟨d,rfl⟩:∃n:Nat,xd=n:=⟨xd.toNat,by omega⟩;obtain⟨a,rfl⟩:∃n:Nat,xa=n:=⟨xa.toNat,by omega⟩;obtain⟨b,rfl⟩:∃n:Nat,xb=n:=⟨xb.toNat,by omega⟩;have hop:xo=1\/xo=2\/xo=5\/xo=6\/xo=7\/xo=8\/xo=9\/xo=10\/xo=11\/xo=12\/xo=13\/xo=14\/xo=15\/xo=16\/xo=17\/xo=19\/xo=18:=by omega
 clear h34 ho;rcases hop with rfl|rfl|rfl|rfl|rfl|rfl|rfl|rfl|rfl|rfl|rfl|rfl|rfl|rfl|rfl|rfl|rfl
 ·rw[Dv (show ¬(1:Int)=18 by decide)];exact Ad0 h hw xk xc xp xn xm d a b hv hb0 Ra Wa lr cr lw cw hr hws hlr hlw
 ·rw[Dv (show ¬(2:Int)=18 by decide)];exact Ad1 h hw xk xc xp xn xm d a b hv hb0 Ra Wa lr cr lw cw hr hws hlr hlw
 ·rw[Dv (show ¬(5:Int)=18 by decide)];exact Ad2 h hw xk xc xp xn xm d a b hv hb0 Ra Wa lr cr lw cw hr hws hlr hlw
 ·rw[Dv (show ¬(6:Int)=18 by decide)];exact Ad4 h hw xk xc xp xn xm d a b hv hb0 Ra Wa lr cr lw cw hr hws hlr hlw
 ·rw[Dv (show ¬(7:Int)=18 by decide)];exact Ad3 h hw xk xc xp xn xm d a b hv hb0 Ra Wa lr cr lw cw hr hws hlr hlw
 ·rw[Dv (show ¬(8:Int)=18 by decide)];exact Ad5 h hw xk xc xp xn xm d a b hv hb0 Ra Wa lr cr lw cw hr hws hlr hlw
 ·rw[Dv (show ¬(9:Int)=18 by decide)];exact Ad8 h hw xk xc xp xn xm d a b hv hb0 Ra Wa lr cr lw cw hr hws hlr hlw
 ·rw[Dv (show ¬(10:Int)=18 by decide)];exact Aaw h hw xk xc xp xn xm d a b hv hb0 Ra Wa lr cr lw cw hr hws hlr hlw
 ·rw[Dv (show ¬(11:Int)=18 by decide)];exact Aaz h hw xk xc xp xn xm d a b hv hb0 Ra Wa lr cr lw cw hr hws hlr hlw
 ·rw[Dv (show ¬(12:Int)=18 by decide)];exact Aay h hw xk xc xp xn xm d a b hv hb0 Ra Wa lr cr lw cw hr hws hlr hlw
 ·rw[Dv (show ¬(13:Int)=18 by decide)];exact Aau h hw xk xc xp xn xm d a b hv hb0 Ra Wa lr cr lw cw hr hws hlr hlw
 ·rw[Dv (show ¬(14:Int)=18 by decide)];exact Aa0 h hw xk xc xp xn xm d a b hv hb0 Ra Wa lr cr lw cw hr hws hs1 hlr hlw
 ·rw[Dv (show ¬(15:Int)=18 by decide)];exact Aa1 h hw xk xc xp xn xm d a b hv hb0 Ra Wa lr cr lw cw hr hws hlr hlw
 ·rw[Dv (show ¬(16:Int)=18 by decide)];exact Aax h hw xk xc xp xn xm d a b hv hb0 Ra Wa lr cr lw cw hr hws hlr hlw
 ·rw[Dv (show ¬(17:Int)=18 by decide)];exact Aav h hw xk xc xp xn xm d a b hv hb0 Ra Wa lr cr lw cw hr hws hlr hlw
 ·rw[Dv (show ¬(19:Int)=18 by decide)];exact Aa2 h hw xk xc xp xn xm d a b hv hb0 Ra Wa lr cr lw cw hr hws hlr hlw
 ·have hks:=hv.ks rfl;dsimp only at hks;rcases hks.1 with rfl|rfl
  ·exact Rx h hw 1 xc xp xn xm d a b hv hb0 Ra Wa lr cr lw cw hr hws hcy _ _ rfl rfl hlr hlw
  ·exact Rx h hw 2 xc xp xn xm d a b hv hb0 Ra Wa lr cr lw cw hr hws hcy _ _ rfl rfl hlr hlw
end
section
def AtR (R:RA)(m:Mc)(xs:List Ins)(S1:MS)(w:World)(b3:Nat)(X:Array Value)(wx:World):Prop:=
 ∃R',Aj R.A w wx/\Ak wx R' m xs S1/\R'.A.c=R.A.c/\(∀b,b<w.heap.size->R'.A.kd b=R.A.kd b)/\40<=R'.A.kd b3/\Blk wx b3 76 X
def Pu (R:RA)(m:Mc)(xs:List Ins)(r:Bool×MS)(w:World)(e:Ending)(w':World):Prop:=e=.returned (.bool r.1)/\∃R',Aj R.A w w'/\Ak w' R' m xs r.2/\R'.A.c=R.A.c/\∀b,b<w.heap.size->R'.A.kd b=R.A.kd b
section
variable {w w1 w2 w':World} {R R1:RA} {A:CA} {m:Mc} {xs:List Ins} {S S1 S2:MS} {b3:Nat} {X:Array Value} {e:Ending}
theorem Nc.doneR (h:Nc R m xs S w e w'):Gp R m xs S w e w':=⟨h.1,R,h.2.1,h.2.2,rfl,fun _ _=>rfl⟩
theorem AtR.done (hE:Aj R.A w w1)(hc:R1.A.c=R.A.c)(hk:∀b,b<w.heap.size->R1.A.kd b=R.A.kd b)(h3:40<=R1.A.kd b3)(hB:Blk w1 b3 76 X)(hD:Gp R1 m xs S2 w1 e w2):AtR R m xs S2 w b3 X w2:=by
 obtain⟨_,R2,h1,h2,h3',h4⟩:=hD;exact⟨R2,hE.re h1 hk,h2,h3'.trans hc,fun b hb=>(h4 b (nl hb hE.size)).trans (hk b hb),by rw[h4 b3 hB.lt];exact h3,hB.extC h1 h3⟩
theorem AtR.call (h:AtR R m xs S1 w b3 X w1)(hD:∀R1,Ak w1 R1 m xs S1->R1.A.c=R.A.c->Gp R1 m xs S2 w1 e w2):AtR R m xs S2 w b3 X w2:=by
 obtain⟨R1,h1,h2,h3,h4,h5,h6⟩:=h;exact AtR.done h1 h3 h4 h5 h6 (hD R1 h2 h3)
theorem AtR.ext (h:AtR R m xs S1 w b3 X w1)(hE:Ext [] w1 w2):AtR R m xs S1 w b3 X w2:=by
 obtain⟨R1,h1,h2,h3,h4,h5,h6⟩:=h;exact⟨R1,h1.trans (Aj.of (A:=R.A) hE (by simp)),h2.nil hE,h3,h4,h5,h6.ext hE (by simp)⟩
theorem AtR.own (h:AtR R m xs S1 w b3 X w1)(hw:R.A.c<w.heap.size)(h0:R.A.kd R.A.c=0)(i:Nat)(v:Value)(hD:∀R1,Ak w1 R1 m xs S1->R1.A.c=R.A.c->Ak (w1.setCell ⟨R.A.c,i,none⟩ v) R1 m xs S2):AtR R m xs S2 w b3 X (w1.setCell ⟨R.A.c,i,none⟩ v):=by
 obtain⟨R1,h1,h2,h3,h4,h5,h6⟩:=h;refine⟨R1,h1.trans (Aj.of (A:=R.A) (T:=[R.A.c]) (er.setCell (.inl (by simp)) _) (fun x hx=>by rw[ms hx,h0];omega)),hD R1 h2 h3,h3,h4,h5,h6.far (fun he=>?_) _⟩
 change b3=R.A.c at he;rw[he,h4 _ hw,h0] at h5;omega
theorem Ak.setFault (h:Ak w R m xs S)(p:Nat)(k:Int)(g:Nat)(hg:Blk w g 36 #[(p:Nat),k])(hk:R.A.kd g=8) :
  Ak (w.setCell ⟨R.A.c,39,none⟩ (.pointer (some g))) {R with fb:=g } m xs {S with fault:=some (p,k) }:=by
 have hE:Ext [R.A.c] w (w.setCell ⟨R.A.c,39,none⟩ (.pointer (some g))):=er.setCell (.inl (by simp)) _;have hT:∀x∈[R.A.c],R.A.kd x=0:=fun x hx=>by rw[ms hx];exact h.kd.kc
 have hV:=h.vec.ext h.kd hE (fun x hx=>by have:=hT x hx;omega);have hQ:=h.que.ext h.kd hE (fun x hx=>by have:=hT x hx;omega);refine⟨h.ref.set_' 39 _ _ (Ic 39 (fun j hj hne=>?_) (fun _=>rfl)),h.stat.ext h.kd hE (fun x hx=>by have:=hT x hx;omega),h.mem.ext h.kd hE (fun x hx=>by have:=hT x hx;omega),⟨hQ.map,hQ.words⟩,h.loops.ext hE (fun x hx=>by have:=hT x hx;omega),⟨hV.v,hV.wo,hV.wt,hV.wcap,hV.acc,hV.ak⟩,fun a k' hf=>?_,h.kd⟩
 ·unfold rmF;dsimp only;rw[ijn (c:=j=39) hne,ijn (c:=j=39) hne];rfl
 ·dsimp only at hf;cases hf
  exact⟨hg.ext hE (fun hm=>by have:=hT _ hm;omega),hk⟩
theorem RL.push {g2 cap2 n:Nat}{st:List (Nat×Int)}{pc:Nat}(ho:w2.ownsRow 0 100 2 (.slice (some g2) (n+1) cap2) (n+1) (Jp st ++ [.int .i64 (pc:Nat),.int .i64 0]))(hn:n=st.length)(hk:A.kd g2=7):RL w2 {A with lv:=.slice (some g2) (n+1) cap2 } ((pc,0) :: st):=by
 subst hn;refine⟨ho,fun g hg=>?_⟩
 have hgg:g=g2:=by injection hg with hg;exact hg.symm
 rw[hgg];exact hk
theorem Le (T:MS):∀n,({T with over:=true }:MS).waits n={T.waits n with over:=true }
 | 0=>rfl
 | n+1=>by
  show(({T with over:=true }:MS).waits n).wait (n:Nat)=_
  rw[Le T n];show _={(T.waits n).wait (n:Nat) with over:=true }
  unfold MS.wait;dsimp only;split<;>rfl
theorem Vt (hm:m.okB=true)(S:MS)(x:Ins):(Ae m S x).length<=8/\(Ab m S x).length<=8:=by
 have hmk:=Bc hm;constructor
 ·unfold Ae;split
  ·simp
  split
  ·simp
  split
  ·simp
  split
  ·rw[List.length_map,List.length_range];omega
  split
  ·split<;>simp
  ·simp
 ·unfold Ab;split
  ·simp
  split
  ·simp
  split
  ·simp
  split
  ·split<;>simp
  ·simp
theorem Yn {x:Ins}(h:x.op=3\/x.op=4):Cg m S (Ae m S x) (Ab m S x)=0:=by
 have h1:Ae m S x=[]:=by unfold Ae;rcases h with h|h<;>simp[h]
 have h2:Ab m S x=[]:=by unfold Ab;rcases h with h|h<;>simp[h]
 rw[h1,h2];unfold Cg;refine(ijn (by simp)).trans ((ijn fun hh=>?_).trans (ijn (by simp)))
 rw[List.any_eq_true] at hh;obtain⟨i,_,hi⟩:=hh;revert hi
 split<;>simp[Jl]
end
end
end Go.Proofs.YtkgmhggliifkjaaGreat
