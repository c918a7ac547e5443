import Derived.Test.YtkgmhggliifkjaaGreatP37
namespace Go.Proofs.YtkgmhggliifkjaaGreat
open Go.RowKit Go.Proofs.Tryz
set_option linter.all false
set_option maxHeartbeats 8000000
set_option maxRecDepth 100000
section
attribute [local irreducible] Ax
def sW3 (a b c:Int):Bo:=⟨Nat,0,fun g=>.slice (some ⟨g,0,none⟩) 3 3,fun g w=>Blk w g 3 #[a,b,c]⟩
theorem sW3.stays {a b c:Int}:∀u w w',RH [] w w'->(sW3 a b c).V u w->(sW3 a b c).V u w':=fun _ _ _ hR h=>Blk.ext h hR.1 List.not_mem_nil
theorem Aft (k:Int):1<=opN k/\opN k<=3:=by unfold opN;split<;>(try split)<;>omega
theorem Abz (k a b c:Int):(opX k a b c).length=opN k:=by have:=Aft k;unfold opX;rw[List.length_take];simp;omega
theorem Afu {w:World}{g:Nat}{k a b c:Int}(h:Blk w g 3 #[a,b,c]):XIn w g (opX k a b c):=by
 refine⟨h.lt,fun j x hj=>?_⟩
 rw[h.cell];unfold opX at hj;rw[List.getElem?_take] at hj;split at hj
 ·match j,hj with
  | 0,hj=>simpa using hj
  | 1,hj=>simpa using hj
  | 2,hj=>simpa using hj
  | j+3,hj=>simp at hj
 ·cases hj
def Op12 (w:World)(I E:Array Value)(wx:World):Prop:=Ext [] w wx/\Blk wx w.heap.size 76 I/\Blk wx (w.heap.size+1) 176 E
theorem Ov (xo k d ra rb rc xp xn xm xa xb xc:Int)(w:World)(hk:4<=k/\k<=15)(hc:(k=12->xn<=xm)/\(k=13->1<=xn/\xn<=31)/\(k=14->1<=xn))(hn:isW xn)(ha:isW xa)(hb:isW xb)(hcc:isW xc) :
  Calls prog 94 #[.agg #[xo,k,d,ra,rb,rc,xp,xn,xm],xa,xb,xc] w fun e w'=>e=.returned (.int .i64 (opS k xn xm xa xb xc))/\Ext [] w w':=by
 obtain⟨q,hq⟩:∃q,q=opN k:=⟨_,rfl⟩;have hq3:=Aft k;rw[<-hq] at hq3;obtain⟨hqa,hqb⟩:=hq3;have HKC:=hd hc;have HN:=hd hn;have HA:=hd ha;have HB:=hd hb;have HC:=hd hcc;clear hc hn ha hb hcc;obtain⟨hk1,hk2⟩:=hk;by_cases hk12:k=12
 ·subst hk12;have HQ:=hd hq;clear hq;have HI:=hd ((Blk.new w 76 #[xo,(12:Int),d,ra,rb,rc,xp,xn,xm]).alloc (.cells (exC 12 0 0 xn) 176));have HX:=hd (Blk.new' (w.alloc (.cells #[xo,(12:Int),d,ra,rb,rc,xp,xn,xm] 76)) 176 (exC 12 0 0 xn) (w.heap.size+1) (by simp));have HE:=hd (((Ext.refl [] w).alloc (.cells #[xo,(12:Int),d,ra,rb,rc,xp,xn,xm] 76)).alloc (.cells (exC 12 0 0 xn) 176));go_enter func94,ntmps94
  go_upto_region 3 with fail
  unfold exC at HX HE HI;generalize (w.alloc (.cells #[xo,(12:Int),d,ra,rb,rc,xp,xn,xm] 76)).alloc (.cells _ 176)=w1 at *;go_cut [] (fun wx=>Op12 w #[xo,(12:Int),d,ra,rb,rc,xp,xn,xm] (exC 12 xn xm 0) wx)
  case first=>
   have qx:=HI.o.cell;have qxl:=HI.o.lt;have qy:=HX.o.cell;have qyl:=HX.o.lt;have qyf:=HX.o.frozen;go_region
   all_goals (first|(go_wp2_with fail;go_meet)|(go_wp2;go_meet))
   all_goals exact⟨Ext.setAt (.inr (by omega)) (Ext.setAt (.inr (by omega)) (Ext.setAt (.inr (by omega)) HE.o.drew)),(((HI.o.drew.far (show w.heap.size≠w.heap.size+1 by omega) _).far (show w.heap.size≠w.heap.size+1 by omega) _).far (show w.heap.size≠w.heap.size+1 by omega) _),((HX.o.drew.set_' 2 xn _ rfl).set_' 3 xm _ rfl).set_' 4 (.int .i64 0) _ rfl⟩
  case rest=>
   obtain⟨hE2,hI2,hX2⟩:=hcut;rename World=>w2
   have HE2:=hd hE2;have HI2:=hd hI2;have HX2:=hd hX2;clear hE2 hI2 hX2 HI HX HE;unfold exC at HX2;go_wp2_with fail
   refine rgH 9 [(4,sW3 xa xb xc),(7,Bv (.int .i64 (q:Nat)))] ?_ ?_
   ·exact Ah.cons sW3.stays (Ah.cons Bv.stays Ah.nil)
   simp only[TK]
   repeat(refine dE (fun wr nr hJ=>by(have qx:=HI2.o.ext hJ.1 (by simp);have qxc:=qx.cell;have qxl:=qx.lt;clear qx;have qy:=HX2.o.ext hJ.1 (by simp);have qyc:=qy.cell;have qyl:=qy.lt;clear qy);clear hJ;exact CL) ?_;simp only[PT])
   refine Ct (sW3 xa xb xc) rfl rfl ?_ ?_
   ·intro wr nr hJ hf;refine⟨wr.heap.size,.cells #[xa,xb,xc] 3,?_,Blk.new _ _ _⟩
    clear hJ hf;go_simp
    first|rfl|exact⟨rfl,rfl⟩
   intro (b4:Nat);simp only[PT];dsimp only[sW3]
   repeat(refine dE (fun wr nr hJ=>by(have qx:=HI2.o.ext hJ.1 (by simp);have qxc:=qx.cell;have qxl:=qx.lt;clear qx);clear hJ;exact CL) ?_;simp only[PT])
   refine Et (Bv (.int .i64 (q:Nat))) rfl rfl ?_ ?_
   ·apply Exists.intro
    apply Exists.intro
    refine⟨fun wr=>?_,fun wr nr hJ _=>?_⟩
    ·go_simp
     first|exact⟨rfl,rfl⟩|rfl
    ·refine(Nd 12 wr (by omega)).mono ?_
     rintro e w' ⟨rfl,rfl⟩;exact⟨(),by rw[HQ.o];rfl,trivial,er⟩
   intro _;simp only[PT];dsimp only[Bv];have hq1:(0:Int)<=(q:Nat):=by omega
   have hq2:((q:Nat):Int)<=3:=by omega
   repeat(refine dE (fun wr nr hJ=>by clear hJ;exact CL) ?_;simp only[PT])
   refine Aa (fun w4 hJ hF=>?_)
   have hB4:Blk w4 b4 3 #[xa,xb,xc]:=hF 4;have HE4:=hd (HE2.o.trans hJ.1)
   have HON:=hd (Pt 12 xn xm 0 (opS 12 xn xm xa xb xc) q b4 3 (opX 12 xa xb xc) w4 (by omega) (Afu hB4) (by rw[HQ.o];exact Abz _ _ _ _) (by omega) (by
    have:=Nf 12 xn xm xa xb xc w4 (by omega) ⟨fun _=>HKC.o.1 trivial,fun h=>absurd h (by decide),fun h=>absurd h (by decide)⟩ HN.o HA.o HB.o HC.o;rw[HQ.o];have h1:Afp 12 xn=xn:=by unfold Afp;simp
    have h2:Afq 12 xm=xm:=by unfold Afq;simp
    have h3:Afr 12 xn=0:=by unfold Afr;simp
    rw[h1,h2,h3] at this;exact this))
   have HW4:=hd (hB4.cell);clear hF hJ hB4;go_wp2_with fail
   refine HON.o.mono ?_
   rintro e w5 ⟨rfl,hE5⟩;have HE5:=hd (HE4.o.trans hE5);clear hE5;go_wp2_with fail
   go_ret
   exact⟨rfl,HE5.o⟩
 ·have hk12b:(k==12)=false:=by simp[hk12]
  have HQ:=hd hq;clear hq;have HI2:=hd ((Blk.new w 76 #[xo,k,d,ra,rb,rc,xp,xn,xm]).alloc (.cells (exC k 0 0 xn) 176));have HX2:=hd (Blk.new' (w.alloc (.cells #[xo,k,d,ra,rb,rc,xp,xn,xm] 76)) 176 (exC k 0 0 xn) (w.heap.size+1) (by simp));have HE2:=hd (((Ext.refl [] w).alloc (.cells #[xo,k,d,ra,rb,rc,xp,xn,xm] 76)).alloc (.cells (exC k 0 0 xn) 176));go_enter func94,ntmps94
  go_upto_region 4 with fail
  unfold exC at HX2 HE2 HI2;generalize (w.alloc (.cells #[xo,k,d,ra,rb,rc,xp,xn,xm] 76)).alloc (.cells _ 176)=w2 at *;refine rgH 9 [(4,sW3 xa xb xc),(7,Bv (.int .i64 (q:Nat)))] ?_ ?_
  ·exact Ah.cons sW3.stays (Ah.cons Bv.stays Ah.nil)
  simp only[TK]
  repeat(refine dE (fun wr nr hJ=>by(have qx:=HI2.o.ext hJ.1 (by simp);have qxc:=qx.cell;have qxl:=qx.lt;clear qx;have qy:=HX2.o.ext hJ.1 (by simp);have qyc:=qy.cell;have qyl:=qy.lt;clear qy);clear hJ;exact CL) ?_;simp only[PT])
  refine Ct (sW3 xa xb xc) rfl rfl ?_ ?_
  ·intro wr nr hJ hf;refine⟨wr.heap.size,.cells #[xa,xb,xc] 3,?_,Blk.new _ _ _⟩
   clear hJ hf;go_simp
   first|rfl|exact⟨rfl,rfl⟩
  intro (b4:Nat);simp only[PT];dsimp only[sW3]
  repeat(refine dE (fun wr nr hJ=>by(have qx:=HI2.o.ext hJ.1 (by simp);have qxc:=qx.cell;have qxl:=qx.lt;clear qx);clear hJ;exact CL) ?_;simp only[PT])
  refine Et (Bv (.int .i64 (q:Nat))) rfl rfl ?_ ?_
  ·apply Exists.intro
   apply Exists.intro
   refine⟨fun wr=>?_,fun wr nr hJ _=>?_⟩
   ·go_simp
    first|exact⟨rfl,rfl⟩|rfl
   ·refine(Nd k wr (by omega)).mono ?_
    rintro e w' ⟨rfl,rfl⟩;exact⟨(),by rw[HQ.o];rfl,trivial,er⟩
  intro _;simp only[PT];dsimp only[Bv];have hq1:(0:Int)<=(q:Nat):=by omega
  have hq2:((q:Nat):Int)<=3:=by omega
  repeat(refine dE (fun wr nr hJ=>by clear hJ;exact CL) ?_;simp only[PT])
  refine Aa (fun w4 hJ hF=>?_)
  have hB4:Blk w4 b4 3 #[xa,xb,xc]:=hF 4;have HE4:=hd (HE2.o.trans hJ.1)
  have HON:=hd (Pt k 0 0 xn (opS k xn xm xa xb xc) q b4 3 (opX k xa xb xc) w4 (by omega) (Afu hB4) (by rw[HQ.o];exact Abz _ _ _ _) (by omega) (by
   have:=Nf k xn xm xa xb xc w4 (by omega) HKC.o HN.o HA.o HB.o HC.o;rw[HQ.o];have h1:Afp k xn=0:=by unfold Afp;rw[ijn hk12]
   have h2:Afq k xm=0:=by unfold Afq;rw[ijn hk12]
   have h3:Afr k xn=xn:=by unfold Afr;rw[ijn hk12]
   rw[h1,h2,h3] at this;exact this))
  have HW4:=hd (hB4.cell);clear hF hJ hB4;go_wp2_with fail
  refine HON.o.mono ?_
  rintro e w5 ⟨rfl,hE5⟩;have HE5:=hd (HE4.o.trans hE5);clear hE5;go_wp2_with fail
  go_ret
  exact⟨rfl,HE5.o⟩
end
section
attribute [local irreducible] Ax
theorem Ad0 {w:World}{R:RA}{m:Mc}{xs:List Ins}{S:MS}(h:Ak w R m xs S)(hw:WfM m S)(xk xc xp xn xm:Int)(d a b:Nat)(hv:VI m ⟨1,xk,d,a,b,xc,xp,xn,xm⟩)(hb0:Cg m S (Ae m S ⟨1,xk,d,a,b,xc,xp,xn,xm⟩) (Ab m S ⟨1,xk,d,a,b,xc,xp,xn,xm⟩)=0)(Ra Wa:Option Addr)(lr cr lw cw:Nat)(hr:RdB w Ra (Ae m S ⟨1,xk,d,a,b,xc,xp,xn,xm⟩))(hws:RdB w Wa (Ab m S ⟨1,xk,d,a,b,xc,xp,xn,xm⟩))(hlr:(Ae m S ⟨1,xk,d,a,b,xc,xp,xn,xm⟩).length=lr)(hlw:(Ab m S ⟨1,xk,d,a,b,xc,xp,xn,xm⟩).length=lw) :
  Calls prog 54 #[.pointer (some R.A.c),.agg #[(1:Int),xk,d,a,b,xc,xp,xn,xm],.slice Ra lr cr,.slice Wa lw cw] w (Gp R m xs (Az m S ⟨1,xk,d,a,b,xc,xp,xn,xm⟩) w):=by
 have HEF:Hd (Az m S ⟨1,xk,d,a,b,xc,xp,xn,xm⟩={S with r:=Be S.r d xn }):=hd (by simp[Az]);rw[HEF.o];have HH:=hd h;have HV:=hd hv;have HW:=hd hw;have HAR:=hd (Dq h.kd.ok hw hv hb0);have HB0:=hd hb0;have HR:=hd hr;have HWr:=hd hws;have HLR:=hd hlr;have HLW:=hd hlw;have hm:=Bc h.kd.ok;have hd16:d<16:=by have:=hv.d;dsimp only at this;omega
 have ha16:a<16:=by have:=hv.a;dsimp only at this;omega
 have hb16:b<16:=by have:=hv.b;dsimp only at this;omega
 have hdZ:((d:Nat):Int)<16:=by omega
 have haZ:((a:Nat):Int)<16:=by omega
 have hbZ:((b:Nat):Int)<16:=by omega
 obtain⟨N,hN⟩:∃N:Nat,N=m.lanes.toNat:=⟨_,rfl⟩;have hN2:2<=N/\N<=8:=by omega
 have HML:Hd (m.lanes=(N:Nat)):=hd (by omega);have HNL:=hd hN;clear hN;clear h hw hv hb0 hr hws hlr hlw;have HP4:=hd (((Blk.new w 42 #[.pointer (some R.A.c)]).alloc (.cells #[(1:Int),xk,d,a,b,xc,xp,xn,xm] 76)).alloc (.cells #[.slice Ra lr cr] 95));have HX1:=hd ((Blk.new' (w.alloc (.cells #[.pointer (some R.A.c)] 42)) 76 #[(1:Int),xk,d,a,b,xc,xp,xn,xm] (w.heap.size+1) (by simp)).alloc (.cells #[.slice Ra lr cr] 95));have HP6:=hd (Blk.new' ((w.alloc (.cells #[.pointer (some R.A.c)] 42)).alloc (.cells #[(1:Int),xk,d,a,b,xc,xp,xn,xm] 76)) 95 #[.slice Ra lr cr] (w.heap.size+1+1) (by simp));have HE1:=hd ((((Ext.refl [] w).alloc (.cells #[.pointer (some R.A.c)] 42)).alloc (.cells #[(1:Int),xk,d,a,b,xc,xp,xn,xm] 76)).alloc (.cells #[.slice Ra lr cr] 95));go_enter func54,ntmps54
 go_upto_region 4 with fail
 generalize ((w.alloc (.cells #[.pointer (some R.A.c)] 42)).alloc (.cells #[(1:Int),xk,d,a,b,xc,xp,xn,xm] 76)).alloc (.cells #[.slice Ra lr cr] 95)=w1 at *;generalize hxb:w.heap.size=xbk at *;refine rgE 7 [] ?_
 simp only[TK]
 repeat(refine dE (fun wr nr hJ=>by(have hC:=HH.o.nil (HE1.o.trans hJ);have qcl:=hC.lt;have qx:=HX1.o.ext hJ (by simp);have qxc:=qx.cell;have qxl:=qx.lt;clear qx;have q4:=HP4.o.ext hJ (by simp);have q4c:=q4.cell;have q4l:=q4.lt;clear q4;clear hC);clear hJ;exact CL) ?_;simp only[PT])
 refine Aa (fun w2 hJ hF=>?_)
 have HC2:=hd (HH.o.nil (HE1.o.trans hJ));have HE2:=hd (HE1.o.trans hJ);have HC3:=hd (HC2.o.setReg d hd16 (xn));have q1:=HC2.o.reg hd16;have q2:=HC2.o.ref.frozen (6+d);have q3:=HC2.o.lt;have HE3:Hd (Aj R.A w (w2.setCell ⟨R.A.c,6+d,none⟩ (.int .i64 (xn)))):=hd ((Aj.of (A:=R.A) HE2.o (by simp)).trans (Aj.of (A:=R.A) (T:=[R.A.c]) (er.setCell (p:=⟨R.A.c,6+d,none⟩) (.inl (by simp)) _) (fun x hx=>by rw[ms hx,HH.o.kd.kc];omega)));clear hF hJ;go_wp2_with fail
 go_end0
 exact⟨rfl,R,HE3.o,HC3.o,rfl,fun _ _=>rfl⟩
theorem Aau {w:World}{R:RA}{m:Mc}{xs:List Ins}{S:MS}(h:Ak w R m xs S)(hw:WfM m S)(xk xc xp xn xm:Int)(d a b:Nat)(hv:VI m ⟨13,xk,d,a,b,xc,xp,xn,xm⟩)(hb0:Cg m S (Ae m S ⟨13,xk,d,a,b,xc,xp,xn,xm⟩) (Ab m S ⟨13,xk,d,a,b,xc,xp,xn,xm⟩)=0)(Ra Wa:Option Addr)(lr cr lw cw:Nat)(hr:RdB w Ra (Ae m S ⟨13,xk,d,a,b,xc,xp,xn,xm⟩))(hws:RdB w Wa (Ab m S ⟨13,xk,d,a,b,xc,xp,xn,xm⟩))(hlr:(Ae m S ⟨13,xk,d,a,b,xc,xp,xn,xm⟩).length=lr)(hlw:(Ab m S ⟨13,xk,d,a,b,xc,xp,xn,xm⟩).length=lw) :
  Calls prog 54 #[.pointer (some R.A.c),.agg #[(13:Int),xk,d,a,b,xc,xp,xn,xm],.slice Ra lr cr,.slice Wa lw cw] w (Gp R m xs (Az m S ⟨13,xk,d,a,b,xc,xp,xn,xm⟩) w):=by
 have HEF:Hd (Az m S ⟨13,xk,d,a,b,xc,xp,xn,xm⟩={S with r:=Be S.r d (S.v a xn) }):=hd (by simp[Az]);rw[HEF.o];have HH:=hd h;have HV:=hd hv;have HW:=hd hw;have HAR:=hd (Dq h.kd.ok hw hv hb0);have HB0:=hd hb0;have HR:=hd hr;have HWr:=hd hws;have HLR:=hd hlr;have HLW:=hd hlw;have hm:=Bc h.kd.ok;have hd16:d<16:=by have:=hv.d;dsimp only at this;omega
 have ha16:a<16:=by have:=hv.a;dsimp only at this;omega
 have hb16:b<16:=by have:=hv.b;dsimp only at this;omega
 have hdZ:((d:Nat):Int)<16:=by omega
 have haZ:((a:Nat):Int)<16:=by omega
 have hbZ:((b:Nat):Int)<16:=by omega
 obtain⟨N,hN⟩:∃N:Nat,N=m.lanes.toNat:=⟨_,rfl⟩;have hN2:2<=N/\N<=8:=by omega
 have HML:Hd (m.lanes=(N:Nat)):=hd (by omega);have HNL:=hd hN;have ha8:a<8:=by have:=hv.av (by simp);dsimp only at this;omega
 have hn:=hv.ln rfl;dsimp only at hn;obtain⟨n,rfl⟩:∃n:Nat,xn=n:=⟨xn.toNat,by omega⟩;have hnl:n<m.lanes.toNat:=by omega
 have hnZ:((n:Nat):Int)<(N:Nat):=by omega
 have ha8Z:((a:Nat):Int)<8:=by omega
 clear hn;clear hN;clear h hw hv hb0 hr hws hlr hlw;have HP4:=hd (((Blk.new w 42 #[.pointer (some R.A.c)]).alloc (.cells #[(13:Int),xk,d,a,b,xc,xp,n,xm] 76)).alloc (.cells #[.slice Ra lr cr] 95));have HX1:=hd ((Blk.new' (w.alloc (.cells #[.pointer (some R.A.c)] 42)) 76 #[(13:Int),xk,d,a,b,xc,xp,n,xm] (w.heap.size+1) (by simp)).alloc (.cells #[.slice Ra lr cr] 95));have HP6:=hd (Blk.new' ((w.alloc (.cells #[.pointer (some R.A.c)] 42)).alloc (.cells #[(13:Int),xk,d,a,b,xc,xp,n,xm] 76)) 95 #[.slice Ra lr cr] (w.heap.size+1+1) (by simp));have HE1:=hd ((((Ext.refl [] w).alloc (.cells #[.pointer (some R.A.c)] 42)).alloc (.cells #[(13:Int),xk,d,a,b,xc,xp,n,xm] 76)).alloc (.cells #[.slice Ra lr cr] 95));go_enter func54,ntmps54
 go_upto_region 28 with fail
 generalize ((w.alloc (.cells #[.pointer (some R.A.c)] 42)).alloc (.cells #[(13:Int),xk,d,a,b,xc,xp,n,xm] 76)).alloc (.cells #[.slice Ra lr cr] 95)=w1 at *;generalize hxb:w.heap.size=xbk at *;refine rgE 16 [] ?_
 simp only[TK]
 repeat(refine dE (fun wr nr hJ=>by(have hC:=HH.o.nil (HE1.o.trans hJ);have qcl:=hC.lt;have qx:=HX1.o.ext hJ (by simp);have qxc:=qx.cell;have qxl:=qx.lt;clear qx;have q4:=HP4.o.ext hJ (by simp);have q4c:=q4.cell;have q4l:=q4.lt;clear q4;have qv:=hC.vcell ha8;rw[<-HNL.o] at qv;have qw:=(hC.vec.v a ha8).1.cell hnl;have qwl:=(hC.vec.v a ha8).1.lt;clear hC);clear hJ;exact CL) ?_;simp only[PT])
 refine Aa (fun w2 hJ hF=>?_)
 have HC2:=hd (HH.o.nil (HE1.o.trans hJ));have HE2:=hd (HE1.o.trans hJ);have HC3:=hd (HC2.o.setReg d hd16 (S.v (a:Nat) (n:Nat)));have q1:=HC2.o.reg hd16;have q2:=HC2.o.ref.frozen (6+d);have q3:=HC2.o.lt;have HE3:Hd (Aj R.A w (w2.setCell ⟨R.A.c,6+d,none⟩ (.int .i64 (S.v (a:Nat) (n:Nat))))):=hd ((Aj.of (A:=R.A) HE2.o (by simp)).trans (Aj.of (A:=R.A) (T:=[R.A.c]) (er.setCell (p:=⟨R.A.c,6+d,none⟩) (.inl (by simp)) _) (fun x hx=>by rw[ms hx,HH.o.kd.kc];omega)));clear hF hJ;go_wp2_with fail
 go_end0
 exact⟨rfl,R,HE3.o,HC3.o,rfl,fun _ _=>rfl⟩
theorem Ad1 {w:World}{R:RA}{m:Mc}{xs:List Ins}{S:MS}(h:Ak w R m xs S)(hw:WfM m S)(xk xc xp xn xm:Int)(d a b:Nat)(hv:VI m ⟨2,xk,d,a,b,xc,xp,xn,xm⟩)(hb0:Cg m S (Ae m S ⟨2,xk,d,a,b,xc,xp,xn,xm⟩) (Ab m S ⟨2,xk,d,a,b,xc,xp,xn,xm⟩)=0)(Ra Wa:Option Addr)(lr cr lw cw:Nat)(hr:RdB w Ra (Ae m S ⟨2,xk,d,a,b,xc,xp,xn,xm⟩))(hws:RdB w Wa (Ab m S ⟨2,xk,d,a,b,xc,xp,xn,xm⟩))(hlr:(Ae m S ⟨2,xk,d,a,b,xc,xp,xn,xm⟩).length=lr)(hlw:(Ab m S ⟨2,xk,d,a,b,xc,xp,xn,xm⟩).length=lw) :
  Calls prog 54 #[.pointer (some R.A.c),.agg #[(2:Int),xk,d,a,b,xc,xp,xn,xm],.slice Ra lr cr,.slice Wa lw cw] w (Gp R m xs (Az m S ⟨2,xk,d,a,b,xc,xp,xn,xm⟩) w):=by
 have HEF:Hd (Az m S ⟨2,xk,d,a,b,xc,xp,xn,xm⟩={S with r:=Be S.r d (opS xk xn xm (S.r a) (S.r b) (S.r xc)) }):=hd (by simp[Az]);rw[HEF.o];have HH:=hd h;have HV:=hd hv;have HW:=hd hw;have HAR:=hd (Dq h.kd.ok hw hv hb0);have HB0:=hd hb0;have HR:=hd hr;have HWr:=hd hws;have HLR:=hd hlr;have HLW:=hd hlw;have hm:=Bc h.kd.ok;have hd16:d<16:=by have:=hv.d;dsimp only at this;omega
 have ha16:a<16:=by have:=hv.a;dsimp only at this;omega
 have hb16:b<16:=by have:=hv.b;dsimp only at this;omega
 have hdZ:((d:Nat):Int)<16:=by omega
 have haZ:((a:Nat):Int)<16:=by omega
 have hbZ:((b:Nat):Int)<16:=by omega
 obtain⟨N,hN⟩:∃N:Nat,N=m.lanes.toNat:=⟨_,rfl⟩;have hN2:2<=N/\N<=8:=by omega
 have HML:Hd (m.lanes=(N:Nat)):=hd (by omega);have HNL:=hd hN;have hc:=hv.cr rfl;dsimp only at hc;obtain⟨c,rfl⟩:∃n:Nat,xc=n:=⟨xc.toNat,by omega⟩;have hc16:c<16:=by omega
 have hcZ:((c:Nat):Int)<16:=by omega
 clear hc;have HO:=hd (fun W=>Ov 2 xk d a b c xp xn xm (S.r (a:Nat)) (S.r (b:Nat)) (S.r (c:Nat)) W (hv.ko (.inl rfl)) (hv.kc (.inl rfl)) hv.n (hw.r _) (hw.r _) (hw.r _));clear hN;clear h hw hv hb0 hr hws hlr hlw;have HP4:=hd (((Blk.new w 42 #[.pointer (some R.A.c)]).alloc (.cells #[(2:Int),xk,d,a,b,c,xp,xn,xm] 76)).alloc (.cells #[.slice Ra lr cr] 95));have HX1:=hd ((Blk.new' (w.alloc (.cells #[.pointer (some R.A.c)] 42)) 76 #[(2:Int),xk,d,a,b,c,xp,xn,xm] (w.heap.size+1) (by simp)).alloc (.cells #[.slice Ra lr cr] 95));have HP6:=hd (Blk.new' ((w.alloc (.cells #[.pointer (some R.A.c)] 42)).alloc (.cells #[(2:Int),xk,d,a,b,c,xp,xn,xm] 76)) 95 #[.slice Ra lr cr] (w.heap.size+1+1) (by simp));have HE1:=hd ((((Ext.refl [] w).alloc (.cells #[.pointer (some R.A.c)] 42)).alloc (.cells #[(2:Int),xk,d,a,b,c,xp,xn,xm] 76)).alloc (.cells #[.slice Ra lr cr] 95));go_enter func54,ntmps54
 go_upto_region 6 with fail
 generalize ((w.alloc (.cells #[.pointer (some R.A.c)] 42)).alloc (.cells #[(2:Int),xk,d,a,b,c,xp,xn,xm] 76)).alloc (.cells #[.slice Ra lr cr] 95)=w1 at *;generalize hxb:w.heap.size=xbk at *;refine rgE 28 [(25,Bv (.int .i64 (opS xk xn xm (S.r (a:Nat)) (S.r (b:Nat)) (S.r (c:Nat)))))] ?_
 simp only[TK]
 repeat(refine dE (fun wr nr hJ=>by(have hC:=HH.o.nil (HE1.o.trans hJ);have qcl:=hC.lt;have qx:=HX1.o.ext hJ (by simp);have qxc:=qx.cell;have qxl:=qx.lt;clear qx;have q4:=HP4.o.ext hJ (by simp);have q4c:=q4.cell;have q4l:=q4.lt;clear q4;have qra:=hC.reg ha16;have qrb:=hC.reg hb16;have qrc:=hC.reg hc16;clear hC);clear hJ;exact CL) ?_;simp only[PT])
 refine Bj rfl rfl ?_ ?_
 ·apply Exists.intro
  apply Exists.intro
  refine⟨fun wr=>?_,fun wr nr hJ=>?_⟩
  ·go_simp
   first|exact⟨rfl,rfl⟩|rfl
  ·exact(HO.o _)
 simp only[PT]
 repeat(refine dE (fun wr nr hJ=>by(have hC:=HH.o.nil (HE1.o.trans hJ);have qcl:=hC.lt;have qx:=HX1.o.ext hJ (by simp);have qxc:=qx.cell;have qxl:=qx.lt;clear qx;have q4:=HP4.o.ext hJ (by simp);have q4c:=q4.cell;have q4l:=q4.lt;clear q4;clear hC);clear hJ;exact CL) ?_;simp only[PT])
 refine Aa (fun w2 hJ hF=>?_)
 have HC2:=hd (HH.o.nil (HE1.o.trans hJ));have HE2:=hd (HE1.o.trans hJ);have HC3:=hd (HC2.o.setReg d hd16 (opS xk xn xm (S.r (a:Nat)) (S.r (b:Nat)) (S.r (c:Nat))));have q1:=HC2.o.reg hd16;have q2:=HC2.o.ref.frozen (6+d);have q3:=HC2.o.lt;have HE3:Hd (Aj R.A w (w2.setCell ⟨R.A.c,6+d,none⟩ (.int .i64 (opS xk xn xm (S.r (a:Nat)) (S.r (b:Nat)) (S.r (c:Nat)))))):=hd ((Aj.of (A:=R.A) HE2.o (by simp)).trans (Aj.of (A:=R.A) (T:=[R.A.c]) (er.setCell (p:=⟨R.A.c,6+d,none⟩) (.inl (by simp)) _) (fun x hx=>by rw[ms hx,HH.o.kd.kc];omega)));clear hF hJ;go_wp2_with fail
 go_end0
 exact⟨rfl,R,HE3.o,HC3.o,rfl,fun _ _=>rfl⟩
end
section
attribute [local irreducible] Ax
section
variable {P:Program} {ops:Array Oper} {T:List Nat} {w0:World} {k:Nat} {o:Oper} {rest:List Oper} {a:Act} {F:Nat->World->Prop} {Q:Act->World->Prop} {S:Nat->Option Bo}
theorem Qm (s:Bo)(x:s.α)(hS:S k=some s)(hw:Region.wanted o (yielded ops a.tmps)=true)
  (hr:∀w n,JH T w0 (n+1) w->(∀e∈o.after,Region.binds .any e=true->F e.on w)->(execOp a.eval o).run P w=.ok (.value (s.f x)) w/\s.V x w)
  (h:∀x:s.α,Ax P ops (JH T w0) (RH T) S Q (k+1) rest (a.put o.dst (s.f x)) (upd F k (s.V x))):Ax P ops (JH T w0) (RH T) S Q k (o :: rest) a F:=
 Dh s hS hw (fun w n hJ hf=>⟨x,w,(hr w n hJ hf).1,(hr w n hJ hf).2,hJ,er,Es.refl _⟩) h
end
def Ko (x:Int):Bo:=⟨Nat×Nat,(0,0),fun u=>.slice (some u.1) 1 u.2,fun u w=>u.1<w.heap.size/\w.cell? ⟨u.1,0,none⟩=some (.int .i64 x)⟩
theorem Ko.stays {x:Int}:∀u w w',RH [] w w'->(Ko x).V u w->(Ko x).V u w':=fun _ _ _ hR h=>⟨nl h.1 hR.1.size,hR.1.held h.2 List.not_mem_nil⟩
def Pe (x:Int):Bo:=⟨Nat,0,fun g=>.pointer (some ⟨g,0,none⟩),fun g w=>g<w.heap.size/\w.cell? ⟨g,0,none⟩=some (.int .i64 x)⟩
theorem Pe.stays {x:Int}:∀u w w',RH [] w w'->(Pe x).V u w->(Pe x).V u w':=fun _ _ _ hR h=>⟨nl h.1 hR.1.size,hR.1.held h.2 List.not_mem_nil⟩
theorem got1 {w:World}{B g c:Nat}{S:MS}{b lo:Int}(h:w.ownsRow B 3 1 (.slice (some ⟨g,0,none⟩) (1:Int).toNat c) (1:Int).toNat ((S.words ⟨b,lo,1⟩).map (Value.int .i64))):g<w.heap.size/\w.cell? ⟨g,0,none⟩=some (.int .i64 (S.mem b lo)):=by
 obtain⟨h1,_,_⟩:=Ou h (by simp[Hu]) (by decide);refine⟨h1.lt,?_⟩
 have h2:=h1.cell (i:=0) (by decide);simpa[MS.words] using h2
theorem Ad2 {w:World}{R:RA}{m:Mc}{xs:List Ins}{S:MS}(h:Ak w R m xs S)(hw:WfM m S)(xk xc xp xn xm:Int)(d a b:Nat)(hv:VI m ⟨5,xk,d,a,b,xc,xp,xn,xm⟩)(hb0:Cg m S (Ae m S ⟨5,xk,d,a,b,xc,xp,xn,xm⟩) (Ab m S ⟨5,xk,d,a,b,xc,xp,xn,xm⟩)=0)(Ra Wa:Option Addr)(lr cr lw cw:Nat)(hr:RdB w Ra (Ae m S ⟨5,xk,d,a,b,xc,xp,xn,xm⟩))(hws:RdB w Wa (Ab m S ⟨5,xk,d,a,b,xc,xp,xn,xm⟩))(hlr:(Ae m S ⟨5,xk,d,a,b,xc,xp,xn,xm⟩).length=lr)(hlw:(Ab m S ⟨5,xk,d,a,b,xc,xp,xn,xm⟩).length=lw) :
  Calls prog 54 #[.pointer (some R.A.c),.agg #[(5:Int),xk,d,a,b,xc,xp,xn,xm],.slice Ra lr cr,.slice Wa lw cw] w (Gp R m xs (Az m S ⟨5,xk,d,a,b,xc,xp,xn,xm⟩) w):=by
 have HEF:Hd (Az m S ⟨5,xk,d,a,b,xc,xp,xn,xm⟩={S with r:=Be S.r d (S.mem (-1) (S.r (a:Nat)+xn)) }):=hd (by simp[Az,Ae,MS.words]);rw[HEF.o];have HH:=hd h;have HV:=hd hv;have HW:=hd hw;have HAR:=hd (Dq h.kd.ok hw hv hb0);have HB0:=hd hb0;have HR:=hd hr;have HWr:=hd hws;have HLR:=hd hlr;have HLW:=hd hlw;have hm:=Bc h.kd.ok;have hd16:d<16:=by have:=hv.d;dsimp only at this;omega
 have ha16:a<16:=by have:=hv.a;dsimp only at this;omega
 have hb16:b<16:=by have:=hv.b;dsimp only at this;omega
 have hdZ:((d:Nat):Int)<16:=by omega
 have haZ:((a:Nat):Int)<16:=by omega
 have hbZ:((b:Nat):Int)<16:=by omega
 obtain⟨N,hN⟩:∃N:Nat,N=m.lanes.toNat:=⟨_,rfl⟩;have hN2:2<=N/\N<=8:=by omega
 have HML:Hd (m.lanes=(N:Nat)):=hd (by omega);have HNL:=hd hN;have HAO:=hd (HAR.o.1 ⟨(-1),S.r (a:Nat)+xn,1⟩ (by simp[Ae]));have HER:Hd (Ae m S ⟨5,xk,d,a,b,xc,xp,xn,xm⟩=[⟨(-1),S.r (a:Nat)+xn,1⟩]):=hd (by simp[Ae]);clear hN;clear h hw hv hb0 hr hws hlr hlw;have HP4:=hd (((Blk.new w 42 #[.pointer (some R.A.c)]).alloc (.cells #[(5:Int),xk,d,a,b,xc,xp,xn,xm] 76)).alloc (.cells #[.slice Ra lr cr] 95));have HX1:=hd ((Blk.new' (w.alloc (.cells #[.pointer (some R.A.c)] 42)) 76 #[(5:Int),xk,d,a,b,xc,xp,xn,xm] (w.heap.size+1) (by simp)).alloc (.cells #[.slice Ra lr cr] 95));have HP6:=hd (Blk.new' ((w.alloc (.cells #[.pointer (some R.A.c)] 42)).alloc (.cells #[(5:Int),xk,d,a,b,xc,xp,xn,xm] 76)) 95 #[.slice Ra lr cr] (w.heap.size+1+1) (by simp));have HE1:=hd ((((Ext.refl [] w).alloc (.cells #[.pointer (some R.A.c)] 42)).alloc (.cells #[(5:Int),xk,d,a,b,xc,xp,xn,xm] 76)).alloc (.cells #[.slice Ra lr cr] 95));go_enter func54,ntmps54
 go_upto_region 9 with fail
 generalize ((w.alloc (.cells #[.pointer (some R.A.c)] 42)).alloc (.cells #[(5:Int),xk,d,a,b,xc,xp,xn,xm] 76)).alloc (.cells #[.slice Ra lr cr] 95)=w1 at *;generalize hxb:w.heap.size=xbk at *;refine rgH 9 [(4,Ko (S.mem (-1) (S.r (a:Nat)+xn))),(5,Pe (S.mem (-1) (S.r (a:Nat)+xn))),(6,Bv (.int .i64 (S.mem (-1) (S.r (a:Nat)+xn))))] ?_ ?_
 ·exact Ah.cons Ko.stays (Ah.cons Pe.stays (Ah.cons Bv.stays Ah.nil))
 simp only[TK]
 repeat(refine dE (fun wr nr hJ=>by(have hC:=HH.o.nil (HE1.o.trans hJ.1);have qcl:=hC.lt;have qx:=HX1.o.ext hJ.1 (by simp);have qxc:=qx.cell;have qxl:=qx.lt;clear qx;have q4:=HP4.o.ext hJ.1 (by simp);have q4c:=q4.cell;have q4l:=q4.lt;clear q4;clear hC);clear hJ;exact CL) ?_;simp only[PT])
 refine Et (Ko (S.mem (-1) (S.r (a:Nat)+xn))) rfl rfl ?_ ?_
 ·apply Exists.intro
  apply Exists.intro
  refine⟨fun wr=>?_,fun wr nr hJ _=>?_⟩
  ·go_simp
   first|exact⟨rfl,rfl⟩|rfl
  ·refine(Md (HH.o.nil (HE1.o.trans hJ.1)) 0 (xbk+1+1) xbk Ra lr cr (Ae m S ⟨5,xk,d,a,b,xc,xp,xn,xm⟩) (HR.o.ext (HE1.o.trans hJ.1) (by simp)) HLR.o (by have h9:=HLR.o;rw[HER.o] at h9;simp at h9;omega) ⟨(-1),S.r (a:Nat)+xn,1⟩ (by rw[HER.o];rfl) HAO.o.1 HAO.o.2 ((HP6.o.ext hJ.1 (by simp)).cell 0) ((HP4.o.ext hJ.1 (by simp)).cell 0)).mono ?_
   rintro e w' ⟨g,c,rfl,hE,hO⟩;exact⟨(g,c),rfl,got1 hO,hE⟩
 intro (u4:Nat×Nat);simp only[PT];dsimp only[Ko];refine Qm (Pe (S.mem (-1) (S.r (a:Nat)+xn))) u4.1 rfl rfl ?_ ?_
 ·intro wr nr hJ hf;have f4:(Ko (S.mem (-1) (S.r (a:Nat)+xn))).V u4 wr:=Cm hf 4 (by kernel_rfl);refine⟨?_,f4⟩
  clear hJ hf f4;go_simp
  first|rfl|exact⟨rfl,rfl⟩
 intro (g5:Nat);simp only[PT];dsimp only[Pe];refine Qm (Bv (.int .i64 (S.mem (-1) (S.r (a:Nat)+xn)))) () rfl rfl ?_ ?_
 ·intro wr nr hJ hf;have f5:(Pe (S.mem (-1) (S.r (a:Nat)+xn))).V g5 wr:=Cm hf 5 (by kernel_rfl);refine⟨?_,trivial⟩
  have f50:=f5.1;have f51:=f5.2;clear hJ hf f5;go_simp
  first|rfl|exact⟨rfl,rfl⟩
 intro _;simp only[PT];dsimp only[Bv]
 repeat(refine dE (fun wr nr hJ=>by(have hC:=HH.o.nil (HE1.o.trans hJ.1);have qcl:=hC.lt;have qx:=HX1.o.ext hJ.1 (by simp);have qxc:=qx.cell;have qxl:=qx.lt;clear qx;have q4:=HP4.o.ext hJ.1 (by simp);have q4c:=q4.cell;have q4l:=q4.lt;clear q4;clear hC);clear hJ;exact CL) ?_;simp only[PT])
 refine Aa (fun w2 hJ hF=>?_)
 have HC2:=hd (HH.o.nil (HE1.o.trans hJ.1));have HE2:=hd (HE1.o.trans hJ.1);have HC3:=hd (HC2.o.setReg d hd16 (S.mem (-1) (S.r (a:Nat)+xn)));have q1:=HC2.o.reg hd16;have q2:=HC2.o.ref.frozen (6+d);have q3:=HC2.o.lt;have HE3:Hd (Aj R.A w (w2.setCell ⟨R.A.c,6+d,none⟩ (.int .i64 (S.mem (-1) (S.r (a:Nat)+xn))))):=hd ((Aj.of (A:=R.A) HE2.o (by simp)).trans (Aj.of (A:=R.A) (T:=[R.A.c]) (er.setCell (p:=⟨R.A.c,6+d,none⟩) (.inl (by simp)) _) (fun x hx=>by rw[ms hx,HH.o.kd.kc];omega)));clear hF hJ;go_wp2_with fail
 go_end0
 exact⟨rfl,R,HE3.o,HC3.o,rfl,fun _ _=>rfl⟩
theorem Ad3 {w:World}{R:RA}{m:Mc}{xs:List Ins}{S:MS}(h:Ak w R m xs S)(hw:WfM m S)(xk xc xp xn xm:Int)(d a b:Nat)(hv:VI m ⟨7,xk,d,a,b,xc,xp,xn,xm⟩)(hb0:Cg m S (Ae m S ⟨7,xk,d,a,b,xc,xp,xn,xm⟩) (Ab m S ⟨7,xk,d,a,b,xc,xp,xn,xm⟩)=0)(Ra Wa:Option Addr)(lr cr lw cw:Nat)(hr:RdB w Ra (Ae m S ⟨7,xk,d,a,b,xc,xp,xn,xm⟩))(hws:RdB w Wa (Ab m S ⟨7,xk,d,a,b,xc,xp,xn,xm⟩))(hlr:(Ae m S ⟨7,xk,d,a,b,xc,xp,xn,xm⟩).length=lr)(hlw:(Ab m S ⟨7,xk,d,a,b,xc,xp,xn,xm⟩).length=lw) :
  Calls prog 54 #[.pointer (some R.A.c),.agg #[(7:Int),xk,d,a,b,xc,xp,xn,xm],.slice Ra lr cr,.slice Wa lw cw] w (Gp R m xs (Az m S ⟨7,xk,d,a,b,xc,xp,xn,xm⟩) w):=by
 have HEF:Hd (Az m S ⟨7,xk,d,a,b,xc,xp,xn,xm⟩={S with r:=Be S.r d (S.mem xc (S.r (a:Nat)+xn)) }):=hd (by simp[Az,Ae,MS.words]);rw[HEF.o];have HH:=hd h;have HV:=hd hv;have HW:=hd hw;have HAR:=hd (Dq h.kd.ok hw hv hb0);have HB0:=hd hb0;have HR:=hd hr;have HWr:=hd hws;have HLR:=hd hlr;have HLW:=hd hlw;have hm:=Bc h.kd.ok;have hd16:d<16:=by have:=hv.d;dsimp only at this;omega
 have ha16:a<16:=by have:=hv.a;dsimp only at this;omega
 have hb16:b<16:=by have:=hv.b;dsimp only at this;omega
 have hdZ:((d:Nat):Int)<16:=by omega
 have haZ:((a:Nat):Int)<16:=by omega
 have hbZ:((b:Nat):Int)<16:=by omega
 obtain⟨N,hN⟩:∃N:Nat,N=m.lanes.toNat:=⟨_,rfl⟩;have hN2:2<=N/\N<=8:=by omega
 have HML:Hd (m.lanes=(N:Nat)):=hd (by omega);have HNL:=hd hN;have HAO:=hd (HAR.o.1 ⟨xc,S.r (a:Nat)+xn,1⟩ (by simp[Ae]));have HER:Hd (Ae m S ⟨7,xk,d,a,b,xc,xp,xn,xm⟩=[⟨xc,S.r (a:Nat)+xn,1⟩]):=hd (by simp[Ae]);clear hN;clear h hw hv hb0 hr hws hlr hlw;have HP4:=hd (((Blk.new w 42 #[.pointer (some R.A.c)]).alloc (.cells #[(7:Int),xk,d,a,b,xc,xp,xn,xm] 76)).alloc (.cells #[.slice Ra lr cr] 95));have HX1:=hd ((Blk.new' (w.alloc (.cells #[.pointer (some R.A.c)] 42)) 76 #[(7:Int),xk,d,a,b,xc,xp,xn,xm] (w.heap.size+1) (by simp)).alloc (.cells #[.slice Ra lr cr] 95));have HP6:=hd (Blk.new' ((w.alloc (.cells #[.pointer (some R.A.c)] 42)).alloc (.cells #[(7:Int),xk,d,a,b,xc,xp,xn,xm] 76)) 95 #[.slice Ra lr cr] (w.heap.size+1+1) (by simp));have HE1:=hd ((((Ext.refl [] w).alloc (.cells #[.pointer (some R.A.c)] 42)).alloc (.cells #[(7:Int),xk,d,a,b,xc,xp,xn,xm] 76)).alloc (.cells #[.slice Ra lr cr] 95));go_enter func54,ntmps54
 go_upto_region 9 with fail
 generalize ((w.alloc (.cells #[.pointer (some R.A.c)] 42)).alloc (.cells #[(7:Int),xk,d,a,b,xc,xp,xn,xm] 76)).alloc (.cells #[.slice Ra lr cr] 95)=w1 at *;generalize hxb:w.heap.size=xbk at *;refine rgH 9 [(4,Ko (S.mem xc (S.r (a:Nat)+xn))),(5,Pe (S.mem xc (S.r (a:Nat)+xn))),(6,Bv (.int .i64 (S.mem xc (S.r (a:Nat)+xn))))] ?_ ?_
 ·exact Ah.cons Ko.stays (Ah.cons Pe.stays (Ah.cons Bv.stays Ah.nil))
 simp only[TK]
 repeat(refine dE (fun wr nr hJ=>by(have hC:=HH.o.nil (HE1.o.trans hJ.1);have qcl:=hC.lt;have qx:=HX1.o.ext hJ.1 (by simp);have qxc:=qx.cell;have qxl:=qx.lt;clear qx;have q4:=HP4.o.ext hJ.1 (by simp);have q4c:=q4.cell;have q4l:=q4.lt;clear q4;clear hC);clear hJ;exact CL) ?_;simp only[PT])
 refine Et (Ko (S.mem xc (S.r (a:Nat)+xn))) rfl rfl ?_ ?_
 ·apply Exists.intro
  apply Exists.intro
  refine⟨fun wr=>?_,fun wr nr hJ _=>?_⟩
  ·go_simp
   first|exact⟨rfl,rfl⟩|rfl
  ·refine(Md (HH.o.nil (HE1.o.trans hJ.1)) 0 (xbk+1+1) xbk Ra lr cr (Ae m S ⟨7,xk,d,a,b,xc,xp,xn,xm⟩) (HR.o.ext (HE1.o.trans hJ.1) (by simp)) HLR.o (by have h9:=HLR.o;rw[HER.o] at h9;simp at h9;omega) ⟨xc,S.r (a:Nat)+xn,1⟩ (by rw[HER.o];rfl) HAO.o.1 HAO.o.2 ((HP6.o.ext hJ.1 (by simp)).cell 0) ((HP4.o.ext hJ.1 (by simp)).cell 0)).mono ?_
   rintro e w' ⟨g,c,rfl,hE,hO⟩;exact⟨(g,c),rfl,got1 hO,hE⟩
 intro (u4:Nat×Nat);simp only[PT];dsimp only[Ko];refine Qm (Pe (S.mem xc (S.r (a:Nat)+xn))) u4.1 rfl rfl ?_ ?_
 ·intro wr nr hJ hf;have f4:(Ko (S.mem xc (S.r (a:Nat)+xn))).V u4 wr:=Cm hf 4 (by kernel_rfl);refine⟨?_,f4⟩
  clear hJ hf f4;go_simp
  first|rfl|exact⟨rfl,rfl⟩
 intro (g5:Nat);simp only[PT];dsimp only[Pe];refine Qm (Bv (.int .i64 (S.mem xc (S.r (a:Nat)+xn)))) () rfl rfl ?_ ?_
 ·intro wr nr hJ hf;have f5:(Pe (S.mem xc (S.r (a:Nat)+xn))).V g5 wr:=Cm hf 5 (by kernel_rfl);refine⟨?_,trivial⟩
  have f50:=f5.1;have f51:=f5.2;clear hJ hf f5;go_simp
  first|rfl|exact⟨rfl,rfl⟩
 intro _;simp only[PT];dsimp only[Bv]
 repeat(refine dE (fun wr nr hJ=>by(have hC:=HH.o.nil (HE1.o.trans hJ.1);have qcl:=hC.lt;have qx:=HX1.o.ext hJ.1 (by simp);have qxc:=qx.cell;have qxl:=qx.lt;clear qx;have q4:=HP4.o.ext hJ.1 (by simp);have q4c:=q4.cell;have q4l:=q4.lt;clear q4;clear hC);clear hJ;exact CL) ?_;simp only[PT])
 refine Aa (fun w2 hJ hF=>?_)
 have HC2:=hd (HH.o.nil (HE1.o.trans hJ.1));have HE2:=hd (HE1.o.trans hJ.1);have HC3:=hd (HC2.o.setReg d hd16 (S.mem xc (S.r (a:Nat)+xn)));have q1:=HC2.o.reg hd16;have q2:=HC2.o.ref.frozen (6+d);have q3:=HC2.o.lt;have HE3:Hd (Aj R.A w (w2.setCell ⟨R.A.c,6+d,none⟩ (.int .i64 (S.mem xc (S.r (a:Nat)+xn))))):=hd ((Aj.of (A:=R.A) HE2.o (by simp)).trans (Aj.of (A:=R.A) (T:=[R.A.c]) (er.setCell (p:=⟨R.A.c,6+d,none⟩) (.inl (by simp)) _) (fun x hx=>by rw[ms hx,HH.o.kd.kc];omega)));clear hF hJ;go_wp2_with fail
 go_end0
 exact⟨rfl,R,HE3.o,HC3.o,rfl,fun _ _=>rfl⟩
theorem Ad4 {w:World}{R:RA}{m:Mc}{xs:List Ins}{S:MS}(h:Ak w R m xs S)(hw:WfM m S)(xk xc xp xn xm:Int)(d a b:Nat)(hv:VI m ⟨6,xk,d,a,b,xc,xp,xn,xm⟩)(hb0:Cg m S (Ae m S ⟨6,xk,d,a,b,xc,xp,xn,xm⟩) (Ab m S ⟨6,xk,d,a,b,xc,xp,xn,xm⟩)=0)(Ra Wa:Option Addr)(lr cr lw cw:Nat)(hr:RdB w Ra (Ae m S ⟨6,xk,d,a,b,xc,xp,xn,xm⟩))(hws:RdB w Wa (Ab m S ⟨6,xk,d,a,b,xc,xp,xn,xm⟩))(hlr:(Ae m S ⟨6,xk,d,a,b,xc,xp,xn,xm⟩).length=lr)(hlw:(Ab m S ⟨6,xk,d,a,b,xc,xp,xn,xm⟩).length=lw) :
  Calls prog 54 #[.pointer (some R.A.c),.agg #[(6:Int),xk,d,a,b,xc,xp,xn,xm],.slice Ra lr cr,.slice Wa lw cw] w (Gp R m xs (Az m S ⟨6,xk,d,a,b,xc,xp,xn,xm⟩) w):=by
 have HEF:Hd (Az m S ⟨6,xk,d,a,b,xc,xp,xn,xm⟩=S.put ⟨(-1),S.r (a:Nat)+xn,1⟩ [S.r b]):=hd (by simp[Az,Ab]);rw[HEF.o];have HH:=hd h;have HV:=hd hv;have HW:=hd hw;have HAR:=hd (Dq h.kd.ok hw hv hb0);have HB0:=hd hb0;have HR:=hd hr;have HWr:=hd hws;have HLR:=hd hlr;have HLW:=hd hlw;have hm:=Bc h.kd.ok;have hd16:d<16:=by have:=hv.d;dsimp only at this;omega
 have ha16:a<16:=by have:=hv.a;dsimp only at this;omega
 have hb16:b<16:=by have:=hv.b;dsimp only at this;omega
 have hdZ:((d:Nat):Int)<16:=by omega
 have haZ:((a:Nat):Int)<16:=by omega
 have hbZ:((b:Nat):Int)<16:=by omega
 obtain⟨N,hN⟩:∃N:Nat,N=m.lanes.toNat:=⟨_,rfl⟩;have hN2:2<=N/\N<=8:=by omega
 have HML:Hd (m.lanes=(N:Nat)):=hd (by omega);have HNL:=hd hN;have HAO:=hd (HAR.o.2 ⟨(-1),S.r (a:Nat)+xn,1⟩ (by simp[Ab]));have HEW:Hd (Ab m S ⟨6,xk,d,a,b,xc,xp,xn,xm⟩=[⟨(-1),S.r (a:Nat)+xn,1⟩]):=hd (by simp[Ab]);clear hN;clear h hw hv hb0 hr hws hlr hlw;have HP4:=hd (((Blk.new w 42 #[.pointer (some R.A.c)]).alloc (.cells #[(6:Int),xk,d,a,b,xc,xp,xn,xm] 76)).alloc (.cells #[.slice Ra lr cr] 95));have HX1:=hd ((Blk.new' (w.alloc (.cells #[.pointer (some R.A.c)] 42)) 76 #[(6:Int),xk,d,a,b,xc,xp,xn,xm] (w.heap.size+1) (by simp)).alloc (.cells #[.slice Ra lr cr] 95));have HP6:=hd (Blk.new' ((w.alloc (.cells #[.pointer (some R.A.c)] 42)).alloc (.cells #[(6:Int),xk,d,a,b,xc,xp,xn,xm] 76)) 95 #[.slice Ra lr cr] (w.heap.size+1+1) (by simp));have HE1:=hd ((((Ext.refl [] w).alloc (.cells #[.pointer (some R.A.c)] 42)).alloc (.cells #[(6:Int),xk,d,a,b,xc,xp,xn,xm] 76)).alloc (.cells #[.slice Ra lr cr] 95));go_enter func54,ntmps54
 go_upto_region 12 with fail
 generalize ((w.alloc (.cells #[.pointer (some R.A.c)] 42)).alloc (.cells #[(6:Int),xk,d,a,b,xc,xp,xn,xm] 76)).alloc (.cells #[.slice Ra lr cr] 95)=w1 at *;generalize hxb:w.heap.size=xbk at *;have hW1:=HWr.o;rw[HEW.o] at hW1;have hl1:lw=1:=by rw[<-HLW.o,HEW.o];rfl
 subst hl1;obtain⟨rb,ro,rfl,hrb,hr0,hr1,hr2⟩:=hW1.at (k:=0) rfl;dsimp only at hr0 hr1 hr2;simp only[Nat.zero_mul,Nat.add_zero] at hr0 hr1 hr2;have HR0:=hd (HE1.o.held hr0 (by simp));have HR1:=hd (HE1.o.held hr1 (by simp));have HR2:=hd (HE1.o.held hr2 (by simp));have HRB:Hd (rb<w1.heap.size):=hd (nl hrb HE1.o.size);clear hr0 hr1 hr2 hW1 hrb;refine rgH 12 [(11,sW1 (S.r (b:Nat)))] ?_ ?_
 ·exact Ah.cons sW1.stays Ah.nil
 simp only[TK]
 repeat(refine dE (fun wr nr hJ=>by(have hC:=HH.o.nil (HE1.o.trans hJ.1);have qcl:=hC.lt;have qx:=HX1.o.ext hJ.1 (by simp);have qxc:=qx.cell;have qxl:=qx.lt;clear qx;have q4:=HP4.o.ext hJ.1 (by simp);have q4c:=q4.cell;have q4l:=q4.lt;clear q4;have c0:=hJ.1.held HR0.o (by simp);have c1:=hJ.1.held HR1.o (by simp);have c2:=hJ.1.held HR2.o (by simp);have cl:rb<wr.heap.size:=nl HRB.o hJ.1.size;have qr:=hC.reg hb16;clear hC);clear hJ;exact CL) ?_;simp only[PT])
 refine Ct (sW1 (S.r (b:Nat))) rfl rfl ?_ ?_
 ·intro wr nr hJ hf;refine⟨wr.heap.size,.cells #[.int .i64 (S.r (b:Nat))] 3,?_,Blk.new _ _ _⟩
  clear hJ hf;go_simp
  first|rfl|exact⟨rfl,rfl⟩
 intro (b11:Nat);simp only[PT];dsimp only[sW1];refine Aa (fun w2 hJ hF=>?_)
 have hB11:Blk w2 b11 3 #[.int .i64 (S.r (b:Nat))]:=hF 11
 have hsrc:∀j x,[S.r (b:Nat)][j]? = some x->w2.cell? ⟨b11,0+j,none⟩=some (.int .i64 x):=fun j x hj=>by
  match j,hj with
  | 0,hj=>cases hj;exact hB11.cell 0
 have HE2:=hd (HE1.o.trans hJ.1);have HPU:=hd (Oq (HH.o.nil HE2.o) ⟨(-1),S.r (a:Nat)+xn,1⟩ [S.r (b:Nat)] b11 0 1 HAO.o.1 rfl hsrc);clear hF hJ hB11 hsrc;go_wp2_with fail
 refine HPU.o.mono ?_
 rintro e w3 ⟨rfl,hE3,hC3⟩;have HE3:=hd ((Aj.of (A:=R.A) HE2.o (by simp)).trans hE3);have HC3:=hd hC3;clear hE3 hC3;go_wp2_with fail
 go_end0
 exact⟨rfl,R,HE3.o,HC3.o,rfl,fun _ _=>rfl⟩
theorem Ad5 {w:World}{R:RA}{m:Mc}{xs:List Ins}{S:MS}(h:Ak w R m xs S)(hw:WfM m S)(xk xc xp xn xm:Int)(d a b:Nat)(hv:VI m ⟨8,xk,d,a,b,xc,xp,xn,xm⟩)(hb0:Cg m S (Ae m S ⟨8,xk,d,a,b,xc,xp,xn,xm⟩) (Ab m S ⟨8,xk,d,a,b,xc,xp,xn,xm⟩)=0)(Ra Wa:Option Addr)(lr cr lw cw:Nat)(hr:RdB w Ra (Ae m S ⟨8,xk,d,a,b,xc,xp,xn,xm⟩))(hws:RdB w Wa (Ab m S ⟨8,xk,d,a,b,xc,xp,xn,xm⟩))(hlr:(Ae m S ⟨8,xk,d,a,b,xc,xp,xn,xm⟩).length=lr)(hlw:(Ab m S ⟨8,xk,d,a,b,xc,xp,xn,xm⟩).length=lw) :
  Calls prog 54 #[.pointer (some R.A.c),.agg #[(8:Int),xk,d,a,b,xc,xp,xn,xm],.slice Ra lr cr,.slice Wa lw cw] w (Gp R m xs (Az m S ⟨8,xk,d,a,b,xc,xp,xn,xm⟩) w):=by
 have HEF:Hd (Az m S ⟨8,xk,d,a,b,xc,xp,xn,xm⟩=S.put ⟨xc,S.r (a:Nat)+xn,1⟩ [S.r b]):=hd (by simp[Az,Ab]);rw[HEF.o];have HH:=hd h;have HV:=hd hv;have HW:=hd hw;have HAR:=hd (Dq h.kd.ok hw hv hb0);have HB0:=hd hb0;have HR:=hd hr;have HWr:=hd hws;have HLR:=hd hlr;have HLW:=hd hlw;have hm:=Bc h.kd.ok;have hd16:d<16:=by have:=hv.d;dsimp only at this;omega
 have ha16:a<16:=by have:=hv.a;dsimp only at this;omega
 have hb16:b<16:=by have:=hv.b;dsimp only at this;omega
 have hdZ:((d:Nat):Int)<16:=by omega
 have haZ:((a:Nat):Int)<16:=by omega
 have hbZ:((b:Nat):Int)<16:=by omega
 obtain⟨N,hN⟩:∃N:Nat,N=m.lanes.toNat:=⟨_,rfl⟩;have hN2:2<=N/\N<=8:=by omega
 have HML:Hd (m.lanes=(N:Nat)):=hd (by omega);have HNL:=hd hN;have HAO:=hd (HAR.o.2 ⟨xc,S.r (a:Nat)+xn,1⟩ (by simp[Ab]));have HEW:Hd (Ab m S ⟨8,xk,d,a,b,xc,xp,xn,xm⟩=[⟨xc,S.r (a:Nat)+xn,1⟩]):=hd (by simp[Ab]);clear hN;clear h hw hv hb0 hr hws hlr hlw;have HP4:=hd (((Blk.new w 42 #[.pointer (some R.A.c)]).alloc (.cells #[(8:Int),xk,d,a,b,xc,xp,xn,xm] 76)).alloc (.cells #[.slice Ra lr cr] 95));have HX1:=hd ((Blk.new' (w.alloc (.cells #[.pointer (some R.A.c)] 42)) 76 #[(8:Int),xk,d,a,b,xc,xp,xn,xm] (w.heap.size+1) (by simp)).alloc (.cells #[.slice Ra lr cr] 95));have HP6:=hd (Blk.new' ((w.alloc (.cells #[.pointer (some R.A.c)] 42)).alloc (.cells #[(8:Int),xk,d,a,b,xc,xp,xn,xm] 76)) 95 #[.slice Ra lr cr] (w.heap.size+1+1) (by simp));have HE1:=hd ((((Ext.refl [] w).alloc (.cells #[.pointer (some R.A.c)] 42)).alloc (.cells #[(8:Int),xk,d,a,b,xc,xp,xn,xm] 76)).alloc (.cells #[.slice Ra lr cr] 95));go_enter func54,ntmps54
 go_upto_region 12 with fail
 generalize ((w.alloc (.cells #[.pointer (some R.A.c)] 42)).alloc (.cells #[(8:Int),xk,d,a,b,xc,xp,xn,xm] 76)).alloc (.cells #[.slice Ra lr cr] 95)=w1 at *;generalize hxb:w.heap.size=xbk at *;have hW1:=HWr.o;rw[HEW.o] at hW1;have hl1:lw=1:=by rw[<-HLW.o,HEW.o];rfl
 subst hl1;obtain⟨rb,ro,rfl,hrb,hr0,hr1,hr2⟩:=hW1.at (k:=0) rfl;dsimp only at hr0 hr1 hr2;simp only[Nat.zero_mul,Nat.add_zero] at hr0 hr1 hr2;have HR0:=hd (HE1.o.held hr0 (by simp));have HR1:=hd (HE1.o.held hr1 (by simp));have HR2:=hd (HE1.o.held hr2 (by simp));have HRB:Hd (rb<w1.heap.size):=hd (nl hrb HE1.o.size);clear hr0 hr1 hr2 hW1 hrb;refine rgH 12 [(11,sW1 (S.r (b:Nat)))] ?_ ?_
 ·exact Ah.cons sW1.stays Ah.nil
 simp only[TK]
 repeat(refine dE (fun wr nr hJ=>by(have hC:=HH.o.nil (HE1.o.trans hJ.1);have qcl:=hC.lt;have qx:=HX1.o.ext hJ.1 (by simp);have qxc:=qx.cell;have qxl:=qx.lt;clear qx;have q4:=HP4.o.ext hJ.1 (by simp);have q4c:=q4.cell;have q4l:=q4.lt;clear q4;have c0:=hJ.1.held HR0.o (by simp);have c1:=hJ.1.held HR1.o (by simp);have c2:=hJ.1.held HR2.o (by simp);have cl:rb<wr.heap.size:=nl HRB.o hJ.1.size;have qr:=hC.reg hb16;clear hC);clear hJ;exact CL) ?_;simp only[PT])
 refine Ct (sW1 (S.r (b:Nat))) rfl rfl ?_ ?_
 ·intro wr nr hJ hf;refine⟨wr.heap.size,.cells #[.int .i64 (S.r (b:Nat))] 3,?_,Blk.new _ _ _⟩
  clear hJ hf;go_simp
  first|rfl|exact⟨rfl,rfl⟩
 intro (b11:Nat);simp only[PT];dsimp only[sW1];refine Aa (fun w2 hJ hF=>?_)
 have hB11:Blk w2 b11 3 #[.int .i64 (S.r (b:Nat))]:=hF 11
 have hsrc:∀j x,[S.r (b:Nat)][j]? = some x->w2.cell? ⟨b11,0+j,none⟩=some (.int .i64 x):=fun j x hj=>by
  match j,hj with
  | 0,hj=>cases hj;exact hB11.cell 0
 have HE2:=hd (HE1.o.trans hJ.1);have HPU:=hd (Oq (HH.o.nil HE2.o) ⟨xc,S.r (a:Nat)+xn,1⟩ [S.r (b:Nat)] b11 0 1 HAO.o.1 rfl hsrc);clear hF hJ hB11 hsrc;go_wp2_with fail
 refine HPU.o.mono ?_
 rintro e w3 ⟨rfl,hE3,hC3⟩;have HE3:=hd ((Aj.of (A:=R.A) HE2.o (by simp)).trans hE3);have HC3:=hd hC3;clear hE3 hC3;go_wp2_with fail
 go_end0
 exact⟨rfl,R,HE3.o,HC3.o,rfl,fun _ _=>rfl⟩
end
section
attribute [local irreducible] Ax
def Eg (H N:Nat)(f:Nat->Value):Bo:=⟨Nat×Nat,(0,0),fun u=>.slice (some u.1) N u.2,fun u w=>H<=u.1/\N<=u.2/\UpW w u.1 3 N f⟩
theorem Eg.stays {H N:Nat}{f:Nat->Value}:∀u w w',RH [] w w'->(Eg H N f).V u w->(Eg H N f).V u w':=fun _ _ _ hR h=>⟨h.1,h.2.1,h.2.2.ext hR.1 List.not_mem_nil⟩
theorem Ad6 (w:World)(N g:Nat)(h:Blk w g 3 (Dg N)):UpW w g 3 N (fun _=>.int .i64 0):=Ge h
theorem Ad7 {w:World}{R:RA}{m:Mc}{xs:List Ins}{S:MS}(h:Ak w R m xs S)(N:Nat)(hN:N=m.lanes.toNat)(hN2:2<=N/\N<=8) :
  Calls prog 37 #[.slice (some R.ab) N N] w (Ahn ((List.range N).map fun(k:Nat)=>S.acc (k:Nat)) N w):=by
 have hl:((List.range N).map fun(k:Nat)=>S.acc (k:Nat)).length=N:=by simp
 have h9:=Io R.ab 0 N ((List.range N).map fun(k:Nat)=>S.acc (k:Nat)) w (fun k x hx=>by
  have hk:k<N:=by have h1:=(ils hx).1;omega
  rw[List.getElem?_map,List.getElem?_range hk] at hx;rw[Nat.zero_add,h.acell (k:=k) (by omega)];simpa using hx) (by omega) (by omega)
 rw[hl] at h9;refine h9.mono ?_
 rintro e w' ⟨g,c,rfl,hE,hO⟩;rw[hl] at hO⊢;exact⟨g,c,rfl,hE,hO⟩
theorem Ih.staysH {H N:Nat}:∀u w w',RH [] w w'->(Ih H N).V u w->(Ih H N).V u w':=fun _ _ _ hR h=>⟨h.1.ext hR.1 List.not_mem_nil,h.2⟩
theorem Ad8 {w:World}{R:RA}{m:Mc}{xs:List Ins}{S:MS}(h:Ak w R m xs S)(hw:WfM m S)(xk xc xp xn xm:Int)(d a b:Nat)(hv:VI m ⟨9,xk,d,a,b,xc,xp,xn,xm⟩)(hb0:Cg m S (Ae m S ⟨9,xk,d,a,b,xc,xp,xn,xm⟩) (Ab m S ⟨9,xk,d,a,b,xc,xp,xn,xm⟩)=0)(Ra Wa:Option Addr)(lr cr lw cw:Nat)(hr:RdB w Ra (Ae m S ⟨9,xk,d,a,b,xc,xp,xn,xm⟩))(hws:RdB w Wa (Ab m S ⟨9,xk,d,a,b,xc,xp,xn,xm⟩))(hlr:(Ae m S ⟨9,xk,d,a,b,xc,xp,xn,xm⟩).length=lr)(hlw:(Ab m S ⟨9,xk,d,a,b,xc,xp,xn,xm⟩).length=lw) :
  Calls prog 54 #[.pointer (some R.A.c),.agg #[(9:Int),xk,d,a,b,xc,xp,xn,xm],.slice Ra lr cr,.slice Wa lw cw] w (Gp R m xs (Az m S ⟨9,xk,d,a,b,xc,xp,xn,xm⟩) w):=by
 have HEF:Hd (Az m S ⟨9,xk,d,a,b,xc,xp,xn,xm⟩={S with v:=Be S.v d (fun k=>if 0<=k/\k<m.lanes then(S.words ⟨xc,S.r (a:Nat)+xn,m.lanes⟩).getD k.toNat 0 else S.v d k) }):=hd (by simp[Az,Ae]);rw[HEF.o];have HH:=hd h;have HV:=hd hv;have HW:=hd hw;have HAR:=hd (Dq h.kd.ok hw hv hb0);have HB0:=hd hb0;have HR:=hd hr;have HWr:=hd hws;have HLR:=hd hlr;have HLW:=hd hlw;have hm:=Bc h.kd.ok;have hd16:d<16:=by have:=hv.d;dsimp only at this;omega
 have ha16:a<16:=by have:=hv.a;dsimp only at this;omega
 have hb16:b<16:=by have:=hv.b;dsimp only at this;omega
 have hdZ:((d:Nat):Int)<16:=by omega
 have haZ:((a:Nat):Int)<16:=by omega
 have hbZ:((b:Nat):Int)<16:=by omega
 obtain⟨N,hN⟩:∃N:Nat,N=m.lanes.toNat:=⟨_,rfl⟩;have hN2:2<=N/\N<=8:=by omega
 have HML:Hd (m.lanes=(N:Nat)):=hd (by omega);have HNL:=hd hN;have hd8:d<8:=by have:=hv.dv (by simp);dsimp only at this;omega
 have hd8Z:((d:Nat):Int)<8:=by omega
 have HAO:=hd (HAR.o.1 ⟨xc,S.r (a:Nat)+xn,m.lanes⟩ (by simp[Ae]));have HER:Hd (Ae m S ⟨9,xk,d,a,b,xc,xp,xn,xm⟩=[⟨xc,S.r (a:Nat)+xn,m.lanes⟩]):=hd (by simp[Ae]);have HWL:Hd ((S.words ⟨xc,S.r (a:Nat)+xn,m.lanes⟩).length=N):=hd (by rw[Hu,HNL.o]);clear hN;clear h hw hv hb0 hr hws hlr hlw;have HP4:=hd (((Blk.new w 42 #[.pointer (some R.A.c)]).alloc (.cells #[(9:Int),xk,d,a,b,xc,xp,xn,xm] 76)).alloc (.cells #[.slice Ra lr cr] 95));have HX1:=hd ((Blk.new' (w.alloc (.cells #[.pointer (some R.A.c)] 42)) 76 #[(9:Int),xk,d,a,b,xc,xp,xn,xm] (w.heap.size+1) (by simp)).alloc (.cells #[.slice Ra lr cr] 95));have HP6:=hd (Blk.new' ((w.alloc (.cells #[.pointer (some R.A.c)] 42)).alloc (.cells #[(9:Int),xk,d,a,b,xc,xp,xn,xm] 76)) 95 #[.slice Ra lr cr] (w.heap.size+1+1) (by simp));have HE1:=hd ((((Ext.refl [] w).alloc (.cells #[.pointer (some R.A.c)] 42)).alloc (.cells #[(9:Int),xk,d,a,b,xc,xp,xn,xm] 76)).alloc (.cells #[.slice Ra lr cr] 95));go_enter func54,ntmps54
 go_upto_region 14 with fail
 generalize ((w.alloc (.cells #[.pointer (some R.A.c)] 42)).alloc (.cells #[(9:Int),xk,d,a,b,xc,xp,xn,xm] 76)).alloc (.cells #[.slice Ra lr cr] 95)=w1 at *;generalize hxb:w.heap.size=xbk at *;refine rgH 7 [(4,Eg w1.heap.size N (fun k=>.int .i64 ((S.words ⟨xc,S.r (a:Nat)+xn,m.lanes⟩).getD k 0)))] ?_ ?_
 ·exact Ah.cons Eg.stays Ah.nil
 simp only[TK]
 repeat(refine dE (fun wr nr hJ=>by(have hC:=HH.o.nil (HE1.o.trans hJ.1);have qcl:=hC.lt;have qx:=HX1.o.ext hJ.1 (by simp);have qxc:=qx.cell;have qxl:=qx.lt;clear qx;have q4:=HP4.o.ext hJ.1 (by simp);have q4c:=q4.cell;have q4l:=q4.lt;clear q4;clear hC);clear hJ;exact CL) ?_;simp only[PT])
 refine Et (Eg w1.heap.size N (fun k=>.int .i64 ((S.words ⟨xc,S.r (a:Nat)+xn,m.lanes⟩).getD k 0))) rfl rfl ?_ ?_
 ·apply Exists.intro
  apply Exists.intro
  refine⟨fun wr=>?_,fun wr nr hJ _=>?_⟩
  ·go_simp
   first|exact⟨rfl,rfl⟩|rfl
  ·refine(Md (HH.o.nil (HE1.o.trans hJ.1)) 0 (xbk+1+1) xbk _ _ _ (Ae m S ⟨9,xk,d,a,b,xc,xp,xn,xm⟩) (HR.o.ext (HE1.o.trans hJ.1) (by simp)) HLR.o (by have h9:=HLR.o;rw[HER.o] at h9;simp at h9;omega) ⟨xc,S.r (a:Nat)+xn,m.lanes⟩ (by rw[HER.o];rfl) HAO.o.1 HAO.o.2 ((HP6.o.ext hJ.1 (by simp)).cell 0) ((HP4.o.ext hJ.1 (by simp)).cell 0)).mono ?_
   rintro e w' ⟨g,c,rfl,hE,hO⟩;exact⟨(g,c),by rw[HNL.o];rfl,(by have h9:=Ou hO (Hu _ _) (show 1<=m.lanes.toNat by rw[<-HNL.o];omega);change UpW _ _ _ m.lanes.toNat _/\_<=_/\m.lanes.toNat<=_ at h9;rw[<-HNL.o] at h9;exact⟨nt hJ.1.size h9.2.1,h9.2.2,h9.1⟩),hE⟩
 intro (uk:Nat×Nat);simp only[PT];dsimp only[Eg]
 repeat(refine dE (fun wr nr hJ=>by(have hC:=HH.o.nil (HE1.o.trans hJ.1);have qcl:=hC.lt;have qx:=HX1.o.ext hJ.1 (by simp);have qxc:=qx.cell;have qxl:=qx.lt;clear qx;have q4:=HP4.o.ext hJ.1 (by simp);have q4c:=q4.cell;have q4l:=q4.lt;clear q4;clear hC);clear hJ;exact CL) ?_;simp only[PT])
 refine Aa (fun w2 hJ hF=>?_)
 have fk:(Eg w1.heap.size N (fun k=>.int .i64 ((S.words ⟨xc,S.r (a:Nat)+xn,m.lanes⟩).getD k 0))).V uk w2:=hF 4;obtain⟨fk1,fk2,fk3⟩:=fk;have hsz:=HE1.o.size;have HK:=hd ((HH.o.rekd (fun z=>if z=uk.1 then 8 else R.A.kd z) (fun z hz=>ijn (by omega))).nil (HE1.o.trans hJ.1));have HE2:=hd (HE1.o.trans hJ.1);have HC3:=hd (HK.o.setV d hd8 uk.1 uk.2 (fun k=>if 0<=k/\k<m.lanes then(S.words ⟨xc,S.r (a:Nat)+xn,m.lanes⟩).getD k.toNat 0 else S.v d k) (by rw[<-HNL.o];exact fk3.same (fun k hk=>by have hML:=HML.o;rw[ijp (by omega),Int.toNat_natCast])) (ijp rfl) (by rw[<-HNL.o];exact fk2));rw[<-HNL.o] at HC3;have q1:=HK.o.vcell hd8;rw[<-HNL.o] at q1;have q2:=HK.o.ref.frozen (22+d);have q3:=HK.o.lt;dsimp only at q1 q2 q3;have HE3:Hd (Aj R.A w (w2.setCell ⟨R.A.c,22+d,none⟩ (.slice (some uk.1) N uk.2))):=hd ((Aj.of (A:=R.A) HE2.o (by simp)).trans (Aj.of (A:=R.A) (T:=[R.A.c]) (er.setCell (p:=⟨R.A.c,22+d,none⟩) (.inl (by simp)) _) (fun x hx=>by rw[ms hx,HH.o.kd.kc];omega)));have HKK:Hd (∀z,z<xbk->z≠uk.1):=hd (fun z hz=>by omega);clear hF hJ fk1 fk2 fk3;go_wp2_with fail
 go_end0
 exact⟨rfl,_,HE3.o,HC3.o,rfl,fun z hz=>ijn (HKK.o z (by omega))⟩
theorem Aav {w:World}{R:RA}{m:Mc}{xs:List Ins}{S:MS}(h:Ak w R m xs S)(hw:WfM m S)(xk xc xp xn xm:Int)(d a b:Nat)(hv:VI m ⟨17,xk,d,a,b,xc,xp,xn,xm⟩)(hb0:Cg m S (Ae m S ⟨17,xk,d,a,b,xc,xp,xn,xm⟩) (Ab m S ⟨17,xk,d,a,b,xc,xp,xn,xm⟩)=0)(Ra Wa:Option Addr)(lr cr lw cw:Nat)(hr:RdB w Ra (Ae m S ⟨17,xk,d,a,b,xc,xp,xn,xm⟩))(hws:RdB w Wa (Ab m S ⟨17,xk,d,a,b,xc,xp,xn,xm⟩))(hlr:(Ae m S ⟨17,xk,d,a,b,xc,xp,xn,xm⟩).length=lr)(hlw:(Ab m S ⟨17,xk,d,a,b,xc,xp,xn,xm⟩).length=lw) :
  Calls prog 54 #[.pointer (some R.A.c),.agg #[(17:Int),xk,d,a,b,xc,xp,xn,xm],.slice Ra lr cr,.slice Wa lw cw] w (Gp R m xs (Az m S ⟨17,xk,d,a,b,xc,xp,xn,xm⟩) w):=by
 have HEF:Hd (Az m S ⟨17,xk,d,a,b,xc,xp,xn,xm⟩={S with v:=Be S.v d S.acc }):=hd (by simp[Az]);rw[HEF.o];have HH:=hd h;have HV:=hd hv;have HW:=hd hw;have HAR:=hd (Dq h.kd.ok hw hv hb0);have HB0:=hd hb0;have HR:=hd hr;have HWr:=hd hws;have HLR:=hd hlr;have HLW:=hd hlw;have hm:=Bc h.kd.ok;have hd16:d<16:=by have:=hv.d;dsimp only at this;omega
 have ha16:a<16:=by have:=hv.a;dsimp only at this;omega
 have hb16:b<16:=by have:=hv.b;dsimp only at this;omega
 have hdZ:((d:Nat):Int)<16:=by omega
 have haZ:((a:Nat):Int)<16:=by omega
 have hbZ:((b:Nat):Int)<16:=by omega
 obtain⟨N,hN⟩:∃N:Nat,N=m.lanes.toNat:=⟨_,rfl⟩;have hN2:2<=N/\N<=8:=by omega
 have HML:Hd (m.lanes=(N:Nat)):=hd (by omega);have HNL:=hd hN;have hd8:d<8:=by have:=hv.dv (by simp);dsimp only at this;omega
 have hd8Z:((d:Nat):Int)<8:=by omega
 have HWL:Hd (((List.range N).map fun(k:Nat)=>S.acc (k:Nat)).length=N):=hd (by simp);clear hN;clear h hw hv hb0 hr hws hlr hlw;have HP4:=hd (((Blk.new w 42 #[.pointer (some R.A.c)]).alloc (.cells #[(17:Int),xk,d,a,b,xc,xp,xn,xm] 76)).alloc (.cells #[.slice Ra lr cr] 95));have HX1:=hd ((Blk.new' (w.alloc (.cells #[.pointer (some R.A.c)] 42)) 76 #[(17:Int),xk,d,a,b,xc,xp,xn,xm] (w.heap.size+1) (by simp)).alloc (.cells #[.slice Ra lr cr] 95));have HP6:=hd (Blk.new' ((w.alloc (.cells #[.pointer (some R.A.c)] 42)).alloc (.cells #[(17:Int),xk,d,a,b,xc,xp,xn,xm] 76)) 95 #[.slice Ra lr cr] (w.heap.size+1+1) (by simp));have HE1:=hd ((((Ext.refl [] w).alloc (.cells #[.pointer (some R.A.c)] 42)).alloc (.cells #[(17:Int),xk,d,a,b,xc,xp,xn,xm] 76)).alloc (.cells #[.slice Ra lr cr] 95));go_enter func54,ntmps54
 go_upto_region 50 with fail
 generalize ((w.alloc (.cells #[.pointer (some R.A.c)] 42)).alloc (.cells #[(17:Int),xk,d,a,b,xc,xp,xn,xm] 76)).alloc (.cells #[.slice Ra lr cr] 95)=w1 at *;generalize hxb:w.heap.size=xbk at *;refine rgH 10 [(7,Eg w1.heap.size N (fun k=>.int .i64 (((List.range N).map fun(k:Nat)=>S.acc (k:Nat)).getD k 0)))] ?_ ?_
 ·exact Ah.cons Eg.stays Ah.nil
 simp only[TK]
 repeat(refine dE (fun wr nr hJ=>by(have hC:=HH.o.nil (HE1.o.trans hJ.1);have qcl:=hC.lt;have qx:=HX1.o.ext hJ.1 (by simp);have qxc:=qx.cell;have qxl:=qx.lt;clear qx;have q4:=HP4.o.ext hJ.1 (by simp);have q4c:=q4.cell;have q4l:=q4.lt;clear q4;have qa:=hC.cell (i:=31) (by omega) (v:=.slice (some R.ab) N N) (by rw[HNL.o];rfl);clear hC);clear hJ;exact CL) ?_;simp only[PT])
 refine Et (Eg w1.heap.size N (fun k=>.int .i64 (((List.range N).map fun(k:Nat)=>S.acc (k:Nat)).getD k 0))) rfl rfl ?_ ?_
 ·apply Exists.intro
  apply Exists.intro
  refine⟨fun wr=>?_,fun wr nr hJ _=>?_⟩
  ·go_simp
   first|exact⟨rfl,rfl⟩|rfl
  ·refine(Ad7 (HH.o.nil (HE1.o.trans hJ.1)) N HNL.o ⟨by omega,by omega⟩).mono ?_
   rintro e w' ⟨g,c,rfl,hE,hO⟩;exact⟨(g,c),rfl,(by have h9:=Ou hO HWL.o (by omega);exact⟨nt hJ.1.size h9.2.1,h9.2.2,h9.1⟩),hE⟩
 intro (uk:Nat×Nat);simp only[PT];dsimp only[Eg]
 repeat(refine dE (fun wr nr hJ=>by(have hC:=HH.o.nil (HE1.o.trans hJ.1);have qcl:=hC.lt;have qx:=HX1.o.ext hJ.1 (by simp);have qxc:=qx.cell;have qxl:=qx.lt;clear qx;have q4:=HP4.o.ext hJ.1 (by simp);have q4c:=q4.cell;have q4l:=q4.lt;clear q4;clear hC);clear hJ;exact CL) ?_;simp only[PT])
 refine Aa (fun w2 hJ hF=>?_)
 have fk:(Eg w1.heap.size N (fun k=>.int .i64 (((List.range N).map fun(k:Nat)=>S.acc (k:Nat)).getD k 0))).V uk w2:=hF 7;obtain⟨fk1,fk2,fk3⟩:=fk;have hsz:=HE1.o.size;have HK:=hd ((HH.o.rekd (fun z=>if z=uk.1 then 8 else R.A.kd z) (fun z hz=>ijn (by omega))).nil (HE1.o.trans hJ.1));have HE2:=hd (HE1.o.trans hJ.1);have HC3:=hd (HK.o.setV d hd8 uk.1 uk.2 S.acc (by rw[<-HNL.o];exact fk3.same (fun k hk=>by rw[List.getD_eq_getElem?_getD,List.getElem?_map,List.getElem?_range hk];rfl)) (ijp rfl) (by rw[<-HNL.o];exact fk2));rw[<-HNL.o] at HC3;have q1:=HK.o.vcell hd8;rw[<-HNL.o] at q1;have q2:=HK.o.ref.frozen (22+d);have q3:=HK.o.lt;dsimp only at q1 q2 q3;have HE3:Hd (Aj R.A w (w2.setCell ⟨R.A.c,22+d,none⟩ (.slice (some uk.1) N uk.2))):=hd ((Aj.of (A:=R.A) HE2.o (by simp)).trans (Aj.of (A:=R.A) (T:=[R.A.c]) (er.setCell (p:=⟨R.A.c,22+d,none⟩) (.inl (by simp)) _) (fun x hx=>by rw[ms hx,HH.o.kd.kc];omega)));have HKK:Hd (∀z,z<xbk->z≠uk.1):=hd (fun z hz=>by omega);clear hF hJ fk1 fk2 fk3;go_wp2_with fail
 go_end0
 exact⟨rfl,_,HE3.o,HC3.o,rfl,fun z hz=>ijn (HKK.o z (by omega))⟩
theorem Aaw {w:World}{R:RA}{m:Mc}{xs:List Ins}{S:MS}(h:Ak w R m xs S)(hw:WfM m S)(xk xc xp xn xm:Int)(d a b:Nat)(hv:VI m ⟨10,xk,d,a,b,xc,xp,xn,xm⟩)(hb0:Cg m S (Ae m S ⟨10,xk,d,a,b,xc,xp,xn,xm⟩) (Ab m S ⟨10,xk,d,a,b,xc,xp,xn,xm⟩)=0)(Ra Wa:Option Addr)(lr cr lw cw:Nat)(hr:RdB w Ra (Ae m S ⟨10,xk,d,a,b,xc,xp,xn,xm⟩))(hws:RdB w Wa (Ab m S ⟨10,xk,d,a,b,xc,xp,xn,xm⟩))(hlr:(Ae m S ⟨10,xk,d,a,b,xc,xp,xn,xm⟩).length=lr)(hlw:(Ab m S ⟨10,xk,d,a,b,xc,xp,xn,xm⟩).length=lw) :
  Calls prog 54 #[.pointer (some R.A.c),.agg #[(10:Int),xk,d,a,b,xc,xp,xn,xm],.slice Ra lr cr,.slice Wa lw cw] w (Gp R m xs (Az m S ⟨10,xk,d,a,b,xc,xp,xn,xm⟩) w):=by
 have HEF:Hd (Az m S ⟨10,xk,d,a,b,xc,xp,xn,xm⟩=S.put ⟨xc,S.r (a:Nat)+xn,m.lanes⟩ ((List.range m.lanes.toNat).map fun k=>S.v b (k:Nat))):=hd (by simp[Az,Ab]);rw[HEF.o];have HH:=hd h;have HV:=hd hv;have HW:=hd hw;have HAR:=hd (Dq h.kd.ok hw hv hb0);have HB0:=hd hb0;have HR:=hd hr;have HWr:=hd hws;have HLR:=hd hlr;have HLW:=hd hlw;have hm:=Bc h.kd.ok;have hd16:d<16:=by have:=hv.d;dsimp only at this;omega
 have ha16:a<16:=by have:=hv.a;dsimp only at this;omega
 have hb16:b<16:=by have:=hv.b;dsimp only at this;omega
 have hdZ:((d:Nat):Int)<16:=by omega
 have haZ:((a:Nat):Int)<16:=by omega
 have hbZ:((b:Nat):Int)<16:=by omega
 obtain⟨N,hN⟩:∃N:Nat,N=m.lanes.toNat:=⟨_,rfl⟩;have hN2:2<=N/\N<=8:=by omega
 have HML:Hd (m.lanes=(N:Nat)):=hd (by omega);have HNL:=hd hN;have hb8:b<8:=by have:=hv.bv (by simp);dsimp only at this;omega
 have hb8Z:((b:Nat):Int)<8:=by omega
 have HAO:=hd (HAR.o.2 ⟨xc,S.r (a:Nat)+xn,m.lanes⟩ (by simp[Ab]));have HEW:Hd (Ab m S ⟨10,xk,d,a,b,xc,xp,xn,xm⟩=[⟨xc,S.r (a:Nat)+xn,m.lanes⟩]):=hd (by simp[Ab]);have HWL:Hd (((List.range m.lanes.toNat).map fun k=>S.v b (k:Nat)).length=N):=hd (by simp[hN]);clear hN;clear h hw hv hb0 hr hws hlr hlw;have HP4:=hd (((Blk.new w 42 #[.pointer (some R.A.c)]).alloc (.cells #[(10:Int),xk,d,a,b,xc,xp,xn,xm] 76)).alloc (.cells #[.slice Ra lr cr] 95));have HX1:=hd ((Blk.new' (w.alloc (.cells #[.pointer (some R.A.c)] 42)) 76 #[(10:Int),xk,d,a,b,xc,xp,xn,xm] (w.heap.size+1) (by simp)).alloc (.cells #[.slice Ra lr cr] 95));have HP6:=hd (Blk.new' ((w.alloc (.cells #[.pointer (some R.A.c)] 42)).alloc (.cells #[(10:Int),xk,d,a,b,xc,xp,xn,xm] 76)) 95 #[.slice Ra lr cr] (w.heap.size+1+1) (by simp));have HE1:=hd ((((Ext.refl [] w).alloc (.cells #[.pointer (some R.A.c)] 42)).alloc (.cells #[(10:Int),xk,d,a,b,xc,xp,xn,xm] 76)).alloc (.cells #[.slice Ra lr cr] 95));go_enter func54,ntmps54
 go_upto_region 16 with fail
 generalize ((w.alloc (.cells #[.pointer (some R.A.c)] 42)).alloc (.cells #[(10:Int),xk,d,a,b,xc,xp,xn,xm] 76)).alloc (.cells #[.slice Ra lr cr] 95)=w1 at *;generalize hxb:w.heap.size=xbk at *;have hW1:=HWr.o;rw[HEW.o] at hW1;have hl1:lw=1:=by rw[<-HLW.o,HEW.o];rfl
 subst hl1;obtain⟨rb,ro,rfl,hrb,hr0,hr1,hr2⟩:=hW1.at (k:=0) rfl;dsimp only at hr0 hr1 hr2;simp only[Nat.zero_mul,Nat.add_zero] at hr0 hr1 hr2;have HR0:=hd (HE1.o.held hr0 (by simp));have HR1:=hd (HE1.o.held hr1 (by simp));have HR2:=hd (HE1.o.held hr2 (by simp));have HRB:Hd (rb<w1.heap.size):=hd (nl hrb HE1.o.size);clear hr0 hr1 hr2 hW1 hrb;refine rgH 11 [] ?_ ?_
 ·exact Ah.nil
 simp only[TK]
 repeat(refine dE (fun wr nr hJ=>by(have hC:=HH.o.nil (HE1.o.trans hJ.1);have qcl:=hC.lt;have qx:=HX1.o.ext hJ.1 (by simp);have qxc:=qx.cell;have qxl:=qx.lt;clear qx;have q4:=HP4.o.ext hJ.1 (by simp);have q4c:=q4.cell;have q4l:=q4.lt;clear q4;have c0:=hJ.1.held HR0.o (by simp);have c1:=hJ.1.held HR1.o (by simp);have c2:=hJ.1.held HR2.o (by simp);have cl:rb<wr.heap.size:=nl HRB.o hJ.1.size;have qv:=hC.vcell hb8;rw[<-HNL.o] at qv;clear hC);clear hJ;exact CL) ?_;simp only[PT])
 refine Aa (fun w2 hJ hF=>?_)
 have HE2:=hd (HE1.o.trans hJ.1)
 have hsrc:∀j x,((List.range m.lanes.toNat).map fun k=>S.v b (k:Nat))[j]? = some x->w2.cell? ⟨R.vb b,0+j,none⟩=some (.int .i64 x):=fun j x hj=>by
  have hjl:j<m.lanes.toNat:=by have h1:=(ils hj).1;simpa using h1
  rw[List.getElem?_map,List.getElem?_range hjl] at hj;rw[Nat.zero_add,((HH.o.nil HE2.o).vec.v b hb8).1.cell hjl];simpa using hj
 have hPU:=Oq (HH.o.nil HE2.o) ⟨xc,S.r (a:Nat)+xn,m.lanes⟩ ((List.range m.lanes.toNat).map fun k=>S.v b (k:Nat)) (R.vb b) 0 (R.vc b) HAO.o.1 (by rw[HWL.o];exact HML.o.symm) hsrc;rw[HWL.o] at hPU;have HPU:=hd hPU;clear hF hJ hsrc hPU;go_wp2_with fail
 refine HPU.o.mono ?_
 rintro e w3 ⟨rfl,hE3,hC3⟩;have HE3:=hd ((Aj.of (A:=R.A) HE2.o (by simp)).trans hE3);have HC3:=hd hC3;clear hE3 hC3;go_wp2_with fail
 go_end0
 exact⟨rfl,R,HE3.o,HC3.o,rfl,fun _ _=>rfl⟩
theorem Aax {w:World}{R:RA}{m:Mc}{xs:List Ins}{S:MS}(h:Ak w R m xs S)(hw:WfM m S)(xk xc xp xn xm:Int)(d a b:Nat)(hv:VI m ⟨16,xk,d,a,b,xc,xp,xn,xm⟩)(hb0:Cg m S (Ae m S ⟨16,xk,d,a,b,xc,xp,xn,xm⟩) (Ab m S ⟨16,xk,d,a,b,xc,xp,xn,xm⟩)=0)(Ra Wa:Option Addr)(lr cr lw cw:Nat)(hr:RdB w Ra (Ae m S ⟨16,xk,d,a,b,xc,xp,xn,xm⟩))(hws:RdB w Wa (Ab m S ⟨16,xk,d,a,b,xc,xp,xn,xm⟩))(hlr:(Ae m S ⟨16,xk,d,a,b,xc,xp,xn,xm⟩).length=lr)(hlw:(Ab m S ⟨16,xk,d,a,b,xc,xp,xn,xm⟩).length=lw) :
  Calls prog 54 #[.pointer (some R.A.c),.agg #[(16:Int),xk,d,a,b,xc,xp,xn,xm],.slice Ra lr cr,.slice Wa lw cw] w (Gp R m xs (Az m S ⟨16,xk,d,a,b,xc,xp,xn,xm⟩) w):=by
 have HEF:Hd (Az m S ⟨16,xk,d,a,b,xc,xp,xn,xm⟩={S with acc:=fun _=>0 }):=hd (by simp[Az]);rw[HEF.o];have HH:=hd h;have HV:=hd hv;have HW:=hd hw;have HAR:=hd (Dq h.kd.ok hw hv hb0);have HB0:=hd hb0;have HR:=hd hr;have HWr:=hd hws;have HLR:=hd hlr;have HLW:=hd hlw;have hm:=Bc h.kd.ok;have hd16:d<16:=by have:=hv.d;dsimp only at this;omega
 have ha16:a<16:=by have:=hv.a;dsimp only at this;omega
 have hb16:b<16:=by have:=hv.b;dsimp only at this;omega
 have hdZ:((d:Nat):Int)<16:=by omega
 have haZ:((a:Nat):Int)<16:=by omega
 have hbZ:((b:Nat):Int)<16:=by omega
 obtain⟨N,hN⟩:∃N:Nat,N=m.lanes.toNat:=⟨_,rfl⟩;have hN2:2<=N/\N<=8:=by omega
 have HML:Hd (m.lanes=(N:Nat)):=hd (by omega);have HNL:=hd hN;have HNB:=hd hN2;clear hN;clear h hw hv hb0 hr hws hlr hlw;have HP4:=hd (((Blk.new w 42 #[.pointer (some R.A.c)]).alloc (.cells #[(16:Int),xk,d,a,b,xc,xp,xn,xm] 76)).alloc (.cells #[.slice Ra lr cr] 95));have HX1:=hd ((Blk.new' (w.alloc (.cells #[.pointer (some R.A.c)] 42)) 76 #[(16:Int),xk,d,a,b,xc,xp,xn,xm] (w.heap.size+1) (by simp)).alloc (.cells #[.slice Ra lr cr] 95));have HP6:=hd (Blk.new' ((w.alloc (.cells #[.pointer (some R.A.c)] 42)).alloc (.cells #[(16:Int),xk,d,a,b,xc,xp,xn,xm] 76)) 95 #[.slice Ra lr cr] (w.heap.size+1+1) (by simp));have HE1:=hd ((((Ext.refl [] w).alloc (.cells #[.pointer (some R.A.c)] 42)).alloc (.cells #[(16:Int),xk,d,a,b,xc,xp,xn,xm] 76)).alloc (.cells #[.slice Ra lr cr] 95));go_enter func54,ntmps54
 go_upto_region 48 with fail
 generalize ((w.alloc (.cells #[.pointer (some R.A.c)] 42)).alloc (.cells #[(16:Int),xk,d,a,b,xc,xp,xn,xm] 76)).alloc (.cells #[.slice Ra lr cr] 95)=w1 at *;generalize hxb:w.heap.size=xbk at *
 have hmi:∀W:World,(Instr.makeSlice 22 (.int .i64 N) (.int .i64 N)).run prog W=.ok (.slice (some W.heap.size) N N) (W.alloc (.cells (Dg N) 3)):=fun W=>
  run_make_row' 22 3 (.int .i64 0) 8 underlying22 (by kernel_rfl) rfl .i64 .i64 N (by omega) (by omega) W
 refine rgH 7 [(6,Ih w1.heap.size N)] ?_ ?_
 ·exact Ah.cons Ih.staysH Ah.nil
 simp only[TK]
 repeat(refine dE (fun wr nr hJ=>by(have hC:=HH.o.nil (HE1.o.trans hJ.1);have qcl:=hC.lt;have qx:=HX1.o.ext hJ.1 (by simp);have qxc:=qx.cell;have qxl:=qx.lt;clear qx;have q4:=HP4.o.ext hJ.1 (by simp);have q4c:=q4.cell;have q4l:=q4.lt;clear q4;have qn:=hC.cell (i:=3) (by omega) (v:=.int .i64 (N:Nat)) (by rw[<-HML.o];rfl);clear hC);clear hJ;exact CL) ?_;simp only[PT])
 refine Ct (Ih w1.heap.size N) rfl rfl ?_ ?_
 ·intro wr nr hJ hf;refine⟨wr.heap.size,.cells (Dg N) 3,?_,Blk.new _ _ _,hJ.1.size⟩
  clear hJ hf;go_simp
  first|rfl|exact⟨rfl,rfl⟩
 intro (u6:Nat);simp only[PT];dsimp only[Ih];refine Aa (fun w2 hJ hF=>?_)
 have f6:(Ih w1.heap.size N).V u6 w2:=hF 6;obtain⟨fk1,fk2⟩:=f6;have hsz:=HE1.o.size;have HK:=hd ((HH.o.rekd (fun z=>if z=u6 then 9 else R.A.kd z) (fun z hz=>ijn (by omega))).nil (HE1.o.trans hJ.1));have HE2:=hd (HE1.o.trans hJ.1);have HC3:=hd (HK.o.setAcc u6 (fun _=>0) (by rw[<-HNL.o];exact Ad6 _ _ _ fk1) (ijp rfl));rw[<-HNL.o] at HC3;have q1:=HK.o.cell (i:=31) (by omega) (v:=.slice (some R.ab) N N) (by rw[HNL.o];rfl);have q2:=HK.o.ref.frozen 31;have q3:=HK.o.lt;dsimp only at q1 q2 q3;have HE3:Hd (Aj R.A w (w2.setCell ⟨R.A.c,31,none⟩ (.slice (some u6) N N))):=hd ((Aj.of (A:=R.A) HE2.o (by simp)).trans (Aj.of (A:=R.A) (T:=[R.A.c]) (er.setCell (p:=⟨R.A.c,31,none⟩) (.inl (by simp)) _) (fun x hx=>by rw[ms hx,HH.o.kd.kc];omega)));have HKK:Hd (∀z,z<xbk->z≠u6):=hd (fun z hz=>by omega);clear hF hJ fk1 fk2;go_wp2_with fail
 go_end0
 exact⟨rfl,_,HE3.o,HC3.o,rfl,fun z hz=>ijn (HKK.o z (by omega))⟩
end
section
attribute [local irreducible] Ax
def RpB (w:World)(B N j:Nat)(x:Int):Prop:=∃f,UpW w B 3 N f/\∀i,i<j->f i=.int .i64 x
theorem Yk {w:World}{B N j m c1 c2 b2:Nat}{x:Int}(h:RpB w B N j x)(hsrc:∀i,i<m->w.cell? ⟨b2,i,none⟩=some (.int .i64 x))(ty:TypeId)(dLen sLen:Nat)(hm:Nat.min sLen dLen=m)(hfit:j+m<=N) :
  ∃w',(Builtin.copy_ #[22,22] ty #[.slice (some ⟨B,j,none⟩) dLen c1,.slice (some b2) sLen c2]).run prog w=.ok (.int .i64 m) w'/\RpB w' B N (j+m) x/\Ext [B] w w'/\(∀k,k<=N->RpB w B N k x->RpB w' B N k x):=by
 obtain⟨f,hU,hf⟩:=h;refine⟨_,(run_copy_cells (P:=prog) w 22 22 ty 3 B j dLen c1 ⟨b2,0,none⟩ sLen c2 (List.replicate m (.int .i64 x)) underlying22 (by kernel_rfl) (by rw[List.length_replicate,hm]) ?_ ?_ ?_ ?_).trans (by rw[List.length_replicate];rfl),⟨_,hU.setCells _ j,?_⟩,Ext.setCells (.inl (by simp)) _ _ er,?_⟩
 ·intro i v hv;have hi:i<m:=by have h1:=(ils hv).1;simpa using h1
  rw[List.getElem?_replicate,ijp hi] at hv;cases hv
  rw[Addr.add_mk,Nat.zero_add];exact hsrc i hi
 ·intro i hi;rw[List.length_replicate] at hi;rw[hU.cell (by omega)];rfl
 ·intro i hi;exact hU.frozen _
 ·intro v hv;rw[(List.mem_replicate.1 hv).2];rfl
 ·intro i hi;rw[List.length_replicate];split
  ·rename_i hc
   rw[List.getD_eq_getElem?_getD,List.getElem?_replicate,ijp (by omega)];rfl
  ·exact hf i (by omega)
 ·rintro k hk ⟨f',hU',hf'⟩;refine⟨_,hU'.setCells _ j,fun i hi=>?_⟩
  rw[List.length_replicate];split
  ·rename_i hc
   rw[List.getD_eq_getElem?_getD,List.getElem?_replicate,ijp (by omega)];rfl
  ·exact hf' i hi
theorem Ad9 (n:Nat)(h:2<=n/\n<=8)(w:World):Calls prog 129 #[.int .u64 1,.int .u64 n] w fun e w'=>e=.returned (.tuple #[.int .u64 0,.int .u64 n])/\w'=w:=by
 have b1:bits BinOp.and IntKind.u64 1 4294967295=1:=by decide +kernel
 have b2:bits BinOp.and IntKind.u64 2 4294967295=2:=by decide +kernel
 have b3:bits BinOp.and IntKind.u64 3 4294967295=3:=by decide +kernel
 have b4:bits BinOp.and IntKind.u64 4 4294967295=4:=by decide +kernel
 have b5:bits BinOp.and IntKind.u64 5 4294967295=5:=by decide +kernel
 have b6:bits BinOp.and IntKind.u64 6 4294967295=6:=by decide +kernel
 have b7:bits BinOp.and IntKind.u64 7 4294967295=7:=by decide +kernel
 have b8:bits BinOp.and IntKind.u64 8 4294967295=8:=by decide +kernel
 have b9:bits BinOp.and IntKind.u64 0 4294967295=0:=by decide +kernel
 have h2:n=2\/n=3\/n=4\/n=5\/n=6\/n=7\/n=8:=by omega
 rcases h2 with rfl|rfl|rfl|rfl|rfl|rfl|rfl
 all_goals
  go_enter func129,ntmps129
  go_wp2_with fail
  go_ret2
  exact⟨rfl,rfl⟩
theorem Agu (n:Nat)(h:2<=n/\n<=8)(w:World):Calls prog 120 #[.int .u64 1,.int .u64 n] w fun e w'=>e=.returned (.tuple #[.int .u64 0,.int .u64 n])/\w'=w:=by
 have h0:n<=8:=h.2;go_enter func120,ntmps120
 go_wp2_with fail
 refine(Ad9 n h w).mono ?_
 rintro e w' ⟨rfl,rfl⟩;go_wp2_with fail
 go_ret2
 exact⟨rfl,rfl⟩
def sJm (B N j m:Nat)(x:Int):Bo:=⟨Unit,(),fun _=>.int .i64 m,fun _ w=>RpB w B N (j+m) x⟩
def JCr (B N j:Nat)(x:Int)(w0:World)(_:Nat)(w:World):Prop:=RpB w B N j x/\Ext [B] w0 w
def RCr (B N:Nat)(x:Int)(w w':World):Prop:=Ext [B] w w'/\∀k,k<=N->RpB w B N k x->RpB w' B N k x
def RpP (x:Int)(N:Nat)(w:World)(e:Ending)(w':World):Prop:=∃B:Nat,e=.returned (.slice (some B) N N)/\Ext [] w w'/\w.heap.size<=B/\UpW w' B 3 N (fun _=>.int .i64 x)
theorem RpB.less {w:World}{B N j k:Nat}{x:Int}(h:RpB w B N j x)(hk:k<=j):RpB w B N k x:=by obtain⟨f,h1,h2⟩:=h;exact⟨f,h1,fun i hi=>h2 i (by omega)⟩
theorem RpB.all {w:World}{B N:Nat}{x:Int}(h:RpB w B N N x):UpW w B 3 N (fun _=>.int .i64 x):=by obtain⟨f,h1,h2⟩:=h;exact h1.same (fun i hi=>(h2 i hi).symm)
theorem RpB.lt {w:World}{B N j:Nat}{x:Int}(h:RpB w B N j x):B<w.heap.size:=by obtain⟨f,h1,h2⟩:=h;exact h1.lt
theorem RpB.at {w:World}{B N j i:Nat}{x:Int}(h:RpB w B N j x)(hi:i<j)(hj:j<=N):w.cell? ⟨B,i,none⟩=some (.int .i64 x):=by obtain⟨f,h1,h2⟩:=h;rw[h1.cell (by omega),h2 i hi]
theorem RpB.drew {w:World}{B N j:Nat}{x:Int}(h:RpB w B N j x):RpB w.drew B N j x:=by obtain⟨f,h1,h2⟩:=h;exact⟨f,h1.ext ((Ext.refl [] _).drew) (by simp),h2⟩
theorem Yl (b cap:Nat)(x:Int)(n:Nat)(h:2<=n/\n<=8)(w:World)(hx:Blk w b 3 #[x]) :
  Calls prog 95 #[.slice (some b) 1 cap,n] w (RpP x n w):=by
 obtain⟨hn1,hn2⟩:=h
 have hmk:∀W:World,(Instr.makeSlice 22 (.int .i64 n) (.int .i64 n)).run prog W=.ok (.slice (some W.heap.size) n n) (W.alloc (.cells (Dg n) 3)):=fun W=>
  run_make_row' 22 3 (.int .i64 0) 8 underlying22 (by kernel_rfl) rfl .i64 .i64 n (by omega) (by omega) W
 have h0:RpB (w.alloc (.cells (Dg n) 3)) w.heap.size n 0 x:=⟨_,Ge (Blk.new _ _ _),fun i hi=>by omega⟩;obtain⟨w2,hcp,hCB,hE2,_⟩:=Yk (c1:=n) (c2:=cap) (m:=1) (b2:=b) h0 (fun i hi=>by rw[(hx.alloc _).cell,show i=0 by omega];rfl) 3 n 1 (by show min 1 n=1;omega) (by omega);have HE2:Hd (Ext [] w w2):=hd (((Ext.refl [] w).alloc _).step hE2 (fun i hi=>.inr (by rw[ms hi];exact Nat.le_refl _)));have HCB:=hd hCB;have HM:=hd (Agu n ⟨hn1,hn2⟩ w);clear h0 hE2 hCB hx;generalize Dg n=zs at *;go_enter func95,ntmps95
 go_wp2_with fail
 refine HM.o.mono ?_
 rintro e w1 ⟨rfl,rfl⟩;go_wp2_with fail
 go_loopw [8] (fun v wr=>∃j:Nat,v=.int .i64 j/\1<=j/\j<=n/\Hd (RpB wr w1.heap.size n j x)/\Ext [] w1 wr) (fun v _=>(n-intOf v).toNat)
 case atStart=>exact⟨1,rfl,by omega,by omega,HCB,HE2.o⟩
 case round=>
  obtain⟨j,rfl,hj1,hjn,hC,hE⟩:=hrel;have HE:=hd hE;clear hE;by_cases hlt:j<n
  ·obtain⟨m,hm⟩:∃m:Nat,m=min j (n-j):=⟨_,rfl⟩;have hm1:1<=m/\j+m<=n:=by omega
   have hne:¬n=j:=by omega
   go_wp2_with fail
   refine Am 8 (JCr w1.heap.size n j x wr) (RCr w1.heap.size n x) (Bw [(7,sJm w1.heap.size n j m x)]) (by kernel_rfl) (by kernel_rfl) (fun _ _ h=>h) ?_ ⟨hC.o.drew,er.drew⟩ ?_
   ·exact Ah.cons (fun _ _ _ hR h=>hR.2 _ hm1.2 h) Ah.nil
   simp only[TK]
   repeat(refine dE (fun wr nr hJ=>by clear hJ;exact CL) ?_;simp only[PT])
   refine Dh (sJm w1.heap.size n j m x) rfl rfl ?_ ?_
   ·intro wr2 nr hJ _;obtain⟨hCB,hE⟩:=hJ;obtain⟨w3,hr,hC3,hE3,hR3⟩:=Yk (c1:=n-j) (c2:=n) (m:=m) (b2:=w1.heap.size) hCB (fun i hi=>hCB.at (by omega) (by omega)) 3 (n-j) j (by show min j (n-j)=m;omega) (by omega);refine⟨(),w3,?_,hC3,⟨hC3.less (by omega),hE.trans hE3⟩,hE3,hR3⟩
    clear hC3 hE3 hR3 hCB;go_simp;show Value.int .i64 ((min j (n-j):Nat):Int)=Value.int .i64 (m:Int)
    rw[<-hm]
   intro _;simp only[PT];dsimp only[sJm];refine Aa (fun w4 hJ hF=>?_)
   have f7:RpB w4 w1.heap.size n (j+m) x:=hF 7;have HC4:=hd f7;have HE4:Hd (Ext [] w1 w4):=hd (HE.o.step hJ.2 (fun i hi=>.inr (by rw[ms hi];exact Nat.le_refl _)));clear hJ hF f7;go_wp2_with fail
   go_round
   case rel=>exact⟨j+m,by go_num,by omega,by omega,HC4,HE4.o⟩
   case measure=>simp[intOf];omega
  ·have hjn2:j=n:=by omega
   subst hjn2;go_wp2_with fail
   go_ret
   exact⟨_,rfl,HE.o,Nat.le_refl _,hC.o.all⟩
theorem Aay {w:World}{R:RA}{m:Mc}{xs:List Ins}{S:MS}(h:Ak w R m xs S)(hw:WfM m S)(xk xc xp xn xm:Int)(d a b:Nat)(hv:VI m ⟨12,xk,d,a,b,xc,xp,xn,xm⟩)(hb0:Cg m S (Ae m S ⟨12,xk,d,a,b,xc,xp,xn,xm⟩) (Ab m S ⟨12,xk,d,a,b,xc,xp,xn,xm⟩)=0)(Ra Wa:Option Addr)(lr cr lw cw:Nat)(hr:RdB w Ra (Ae m S ⟨12,xk,d,a,b,xc,xp,xn,xm⟩))(hws:RdB w Wa (Ab m S ⟨12,xk,d,a,b,xc,xp,xn,xm⟩))(hlr:(Ae m S ⟨12,xk,d,a,b,xc,xp,xn,xm⟩).length=lr)(hlw:(Ab m S ⟨12,xk,d,a,b,xc,xp,xn,xm⟩).length=lw) :
  Calls prog 54 #[.pointer (some R.A.c),.agg #[(12:Int),xk,d,a,b,xc,xp,xn,xm],.slice Ra lr cr,.slice Wa lw cw] w (Gp R m xs (Az m S ⟨12,xk,d,a,b,xc,xp,xn,xm⟩) w):=by
 have HEF:Hd (Az m S ⟨12,xk,d,a,b,xc,xp,xn,xm⟩={S with v:=Be S.v d (fun k=>if 0<=k/\k<m.lanes then S.r a else S.v d k) }):=hd (by simp[Az]);rw[HEF.o];have HH:=hd h;have HV:=hd hv;have HW:=hd hw;have HAR:=hd (Dq h.kd.ok hw hv hb0);have HB0:=hd hb0;have HR:=hd hr;have HWr:=hd hws;have HLR:=hd hlr;have HLW:=hd hlw;have hm:=Bc h.kd.ok;have hd16:d<16:=by have:=hv.d;dsimp only at this;omega
 have ha16:a<16:=by have:=hv.a;dsimp only at this;omega
 have hb16:b<16:=by have:=hv.b;dsimp only at this;omega
 have hdZ:((d:Nat):Int)<16:=by omega
 have haZ:((a:Nat):Int)<16:=by omega
 have hbZ:((b:Nat):Int)<16:=by omega
 obtain⟨N,hN⟩:∃N:Nat,N=m.lanes.toNat:=⟨_,rfl⟩;have hN2:2<=N/\N<=8:=by omega
 have HML:Hd (m.lanes=(N:Nat)):=hd (by omega);have HNL:=hd hN;have hd8:d<8:=by have:=hv.dv (by simp);dsimp only at this;omega
 have hd8Z:((d:Nat):Int)<8:=by omega
 clear hN;clear h hw hv hb0 hr hws hlr hlw;have HP4:=hd (((Blk.new w 42 #[.pointer (some R.A.c)]).alloc (.cells #[(12:Int),xk,d,a,b,xc,xp,xn,xm] 76)).alloc (.cells #[.slice Ra lr cr] 95));have HX1:=hd ((Blk.new' (w.alloc (.cells #[.pointer (some R.A.c)] 42)) 76 #[(12:Int),xk,d,a,b,xc,xp,xn,xm] (w.heap.size+1) (by simp)).alloc (.cells #[.slice Ra lr cr] 95));have HP6:=hd (Blk.new' ((w.alloc (.cells #[.pointer (some R.A.c)] 42)).alloc (.cells #[(12:Int),xk,d,a,b,xc,xp,xn,xm] 76)) 95 #[.slice Ra lr cr] (w.heap.size+1+1) (by simp));have HE1:=hd ((((Ext.refl [] w).alloc (.cells #[.pointer (some R.A.c)] 42)).alloc (.cells #[(12:Int),xk,d,a,b,xc,xp,xn,xm] 76)).alloc (.cells #[.slice Ra lr cr] 95));go_enter func54,ntmps54
 go_upto_region 26 with fail
 generalize ((w.alloc (.cells #[.pointer (some R.A.c)] 42)).alloc (.cells #[(12:Int),xk,d,a,b,xc,xp,xn,xm] 76)).alloc (.cells #[.slice Ra lr cr] 95)=w1 at *;generalize hxb:w.heap.size=xbk at *;refine rgH 19 [(10,sW1 (S.r (a:Nat))),(16,Eg w1.heap.size N (fun _=>.int .i64 (S.r (a:Nat))))] ?_ ?_
 ·exact Ah.cons sW1.stays (Ah.cons Eg.stays Ah.nil)
 simp only[TK]
 repeat(refine dE (fun wr nr hJ=>by(have hC:=HH.o.nil (HE1.o.trans hJ.1);have qcl:=hC.lt;have qx:=HX1.o.ext hJ.1 (by simp);have qxc:=qx.cell;have qxl:=qx.lt;clear qx;have q4:=HP4.o.ext hJ.1 (by simp);have q4c:=q4.cell;have q4l:=q4.lt;clear q4;have qr:=hC.reg ha16;clear hC);clear hJ;exact CL) ?_;simp only[PT])
 refine Ct (sW1 (S.r (a:Nat))) rfl rfl ?_ ?_
 ·intro wr nr hJ hf;refine⟨wr.heap.size,.cells #[.int .i64 (S.r (a:Nat))] 3,?_,Blk.new _ _ _⟩
  clear hJ hf;go_simp
  first|rfl|exact⟨rfl,rfl⟩
 intro (b10:Nat);simp only[PT];dsimp only[sW1]
 repeat(refine dE (fun wr nr hJ=>by(have hC:=HH.o.nil (HE1.o.trans hJ.1);have qcl:=hC.lt;have qx:=HX1.o.ext hJ.1 (by simp);have qxc:=qx.cell;have qxl:=qx.lt;clear qx;have q4:=HP4.o.ext hJ.1 (by simp);have q4c:=q4.cell;have q4l:=q4.lt;clear q4;have qn:=hC.cell (i:=3) (by omega) (v:=.int .i64 (N:Nat)) (by rw[<-HML.o];rfl);clear hC);clear hJ;exact CL) ?_;simp only[PT])
 refine Et (Eg w1.heap.size N (fun _=>.int .i64 (S.r (a:Nat)))) rfl rfl ?_ ?_
 ·apply Exists.intro
  apply Exists.intro
  refine⟨fun wr=>?_,fun wr nr hJ hf=>?_⟩
  ·go_simp
   first|exact⟨rfl,rfl⟩|rfl
  ·refine(Yl b10 1 (S.r (a:Nat)) N ⟨by omega,by omega⟩ wr (show Blk wr b10 3 #[.int .i64 (S.r (a:Nat))] from Cm hf 10 (by kernel_rfl))).mono ?_
   rintro e w' ⟨B,rfl,hE,hB,hU⟩;exact⟨(B,N),rfl,⟨nt hJ.1.size hB,Nat.le_refl _,hU⟩,hE⟩
 intro (uk:Nat×Nat);simp only[PT];dsimp only[Eg]
 repeat(refine dE (fun wr nr hJ=>by(have hC:=HH.o.nil (HE1.o.trans hJ.1);have qcl:=hC.lt;have qx:=HX1.o.ext hJ.1 (by simp);have qxc:=qx.cell;have qxl:=qx.lt;clear qx;have q4:=HP4.o.ext hJ.1 (by simp);have q4c:=q4.cell;have q4l:=q4.lt;clear q4;clear hC);clear hJ;exact CL) ?_;simp only[PT])
 refine Aa (fun w2 hJ hF=>?_)
 have fk:(Eg w1.heap.size N (fun _=>.int .i64 (S.r (a:Nat)))).V uk w2:=hF 16;obtain⟨fk1,fk2,fk3⟩:=fk;have hsz:=HE1.o.size;have HK:=hd ((HH.o.rekd (fun z=>if z=uk.1 then 8 else R.A.kd z) (fun z hz=>ijn (by omega))).nil (HE1.o.trans hJ.1));have HE2:=hd (HE1.o.trans hJ.1);have HC3:=hd (HK.o.setV d hd8 uk.1 uk.2 (fun k=>if 0<=k/\k<m.lanes then S.r a else S.v d k) (by rw[<-HNL.o];exact fk3.same (fun k hk=>by have hML:=HML.o;rw[ijp (by omega)])) (ijp rfl) (by rw[<-HNL.o];exact fk2));rw[<-HNL.o] at HC3;have q1:=HK.o.vcell hd8;rw[<-HNL.o] at q1;have q2:=HK.o.ref.frozen (22+d);have q3:=HK.o.lt;dsimp only at q1 q2 q3;have HE3:Hd (Aj R.A w (w2.setCell ⟨R.A.c,22+d,none⟩ (.slice (some uk.1) N uk.2))):=hd ((Aj.of (A:=R.A) HE2.o (by simp)).trans (Aj.of (A:=R.A) (T:=[R.A.c]) (er.setCell (p:=⟨R.A.c,22+d,none⟩) (.inl (by simp)) _) (fun x hx=>by rw[ms hx,HH.o.kd.kc];omega)));have HKK:Hd (∀z,z<xbk->z≠uk.1):=hd (fun z hz=>by omega);clear hF hJ fk1 fk2 fk3;go_wp2_with fail
 go_end0
 exact⟨rfl,_,HE3.o,HC3.o,rfl,fun z hz=>ijn (HKK.o z (by omega))⟩
end
end Go.Proofs.YtkgmhggliifkjaaGreat
