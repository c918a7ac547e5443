import Derived.Test.YtkgmhggliifkjaaGreatP14
import Derived.Test.YtkgmhggliifkjaaGreatP15
import Derived.Test.YtkgmhggliifkjaaGreatP17
namespace Go.Proofs.YtkgmhggliifkjaaGreat
open Go.RowKit Go.Proofs.Tryz
set_option linter.all false
set_option maxHeartbeats 8000000
set_option maxRecDepth 100000
theorem Cu {w:World}{A:CA}{m:Mc}{xs:List Ins}{S:MS}(h:Ag w A m xs S)(hw:WfM m S)(xo xk xd xa xb xc xp xn xm:Int)(hv:VI m ⟨xo,xk,xd,xa,xb,xc,xp,xn,xm⟩) :
  Calls prog 75 #[.pointer (some A.c),.agg #[xo,xk,xd,xa,xb,xc,xp,xn,xm]] w (Hr m S ⟨xo,xk,xd,xa,xb,xc,xp,xn,xm⟩ w):=by
 have hm:=Bc h.kd.ok;have ha:=hv.a;have hb:=hv.b;have hn:=hv.n;have hmm:=hv.mm;dsimp only at ha hb hn hmm;obtain⟨a,rfl⟩:∃n:Nat,xa=n:=⟨xa.toNat,by omega⟩;obtain⟨b,rfl⟩:∃n:Nat,xb=n:=⟨xb.toNat,by omega⟩;have H:Jx w A m xs S a b xn xm:=⟨h,hw,by omega,by omega,hn,hmm⟩;by_cases h5:xo=5
 ·subst h5;exact Acr xk xd xc xp xn xm a b H
 by_cases h6:xo=6
 ·subst h6;exact Acs xk xd xc xp xn xm a b H
 by_cases h7:xo=7
 ·subst h7;exact Acu xk xd xc xp xn xm a b H
 by_cases h8:xo=8
 ·subst h8;exact Acv xk xd xc xp xn xm a b H
 by_cases h9:xo=9
 ·subst h9;exact Acw xk xd xc xp xn xm a b H
 by_cases h10:xo=10
 ·subst h10;exact Zy xk xd xc xp xn xm a b H
 by_cases h14:xo=14
 ·subst h14;have hwm:=hv.wm rfl;dsimp only at hwm;exact Zz xk xd xc xp xn xm a b H (by omega)
 by_cases h18:xo=18
 ·subst h18;exact Aaa xk xd xc xp xn xm a b H (hv.ks rfl).1
 exact Vc xo xk xd xc xp xn xm a b H (by omega)
theorem Rf {w:World}{A:CA}{m:Mc}{xs:List Ins}{S:MS}(h:Ag w A m xs S)(hw:WfM m S)(xo xk xd xa xb xc xp xn xm:Int)(hv:VI m ⟨xo,xk,xd,xa,xb,xc,xp,xn,xm⟩) :
  Calls prog 44 #[.pointer (some A.c),.agg #[xo,xk,xd,xa,xb,xc,xp,xn,xm]] w fun e w'=>
   e=.returned (.int .i64 (Cg m S (Ae m S ⟨xo,xk,xd,xa,xb,xc,xp,xn,xm⟩) (Ab m S ⟨xo,xk,xd,xa,xb,xc,xp,xn,xm⟩)))/\Ext [] w w':=
 Acy h hw xo xk xd xa xb xc xp xn xm hv (fun W hW=>Cu (h.nil hW) hw xo xk xd xa xb xc xp xn xm hv)
section
attribute [local irreducible] Ax
section
variable {w:World} {A:CA} {m:Mc} {xs:List Ins} {S:MS}
theorem Ag.vcell (h:Ag w A m xs S){a k:Nat}(ha:a<8)(hk:k<8):w.cell? ⟨A.c,26+a*8+k,none⟩=some (.int .i64 (S.v (a:Nat) (k:Nat))):=
 h.cell (by omega) (by unfold chF;rw[ijn (by omega),ijn (by omega),ijp (by omega),show((26+a*8+k-26) / 8:Nat)=a by omega,show((26+a*8+k-26) % 8:Nat)=k by omega])
theorem Ag.wcell (h:Ag w A m xs S){i k:Nat}(hi:i<8)(hk:k<8):w.cell? ⟨A.c,90+i*8+k,none⟩=some (.int .i64 (S.wt (i:Nat) (k:Nat))):=
 h.cell (by omega) (by unfold chF;rw[ijn (by omega),ijn (by omega),ijn (by omega),ijp (by omega),show((90+i*8+k-90) / 8:Nat)=i by omega,show((90+i*8+k-90) % 8:Nat)=k by omega])
theorem Ag.acell (h:Ag w A m xs S){k:Nat}(hk:k<8):w.cell? ⟨A.c,154+k,none⟩=some (.int .i64 (S.acc (k:Nat))):=
 h.cell (by omega) (by unfold chF;rw[ijn (by omega),ijn (by omega),ijn (by omega),ijn (by omega),ijp (by omega),show(154+k-154:Nat)=k by omega])
end
theorem Ae7 {w:World}{A:CA}{m:Mc}{xs:List Ins}{S:MS}(h:Ag w A m xs S)(hw:WfM m S)(xk xc xp xn xm:Int)(d a b:Nat)(hv:VI m ⟨1,xk,d,a,b,xc,xp,xn,xm⟩)(hb0:Cg m S (Ae m S ⟨1,xk,d,a,b,xc,xp,xn,xm⟩) (Ab m S ⟨1,xk,d,a,b,xc,xp,xn,xm⟩)=0) :
  Calls prog 45 #[.pointer (some A.c),.agg #[(1:Int),xk,d,a,b,xc,xp,xn,xm]] w (Fb A m xs (Az m S ⟨1,xk,d,a,b,xc,xp,xn,xm⟩) w):=by
 have HEF:Hd (Az m S ⟨1,xk,d,a,b,xc,xp,xn,xm⟩={S with r:=Be S.r d xn }):=hd (by simp[Az]);rw[HEF.o];have HH:=hd h;have HV:=hd hv;have HW:=hd hw;have HB0:=hd hb0;have hm:=Bc h.kd.ok;have hd16:d<16:=by have:=hv.d;dsimp only at this;omega
 have ha16:a<16:=by have:=hv.a;dsimp only at this;omega
 have hb16:b<16:=by have:=hv.b;dsimp only at this;omega
 have hdZ:((d:Nat):Int)<16:=by omega
 have haZ:((a:Nat):Int)<16:=by omega
 have hbZ:((b:Nat):Int)<16:=by omega
 have HT:=hd (fun W (hW:Ext [] w W)=>Cu (h.nil hW) hw 1 xk d a b xc xp xn xm hv);have HX:=hd (Blk.new w 76 #[(1:Int),xk,d,a,b,xc,xp,xn,xm]);have HE0:=hd ((Ext.refl [] w).alloc (.cells #[(1:Int),xk,d,a,b,xc,xp,xn,xm] 76));clear h hw hv hb0;go_enter func45,ntmps45
 go_wp2_with fail
 generalize w.alloc (.cells #[(1:Int),xk,d,a,b,xc,xp,xn,xm] 76)=w0 at *;generalize hxb:w.heap.size=xbk at *;refine(HT.o _ HE0.o).mono ?_
 rintro e w1 ⟨Ra,lr,cr,Wa,lw,cw,rfl,hlr,hlw,hE1,hR,hWr,-,-⟩;have HE1:=hd (HE0.o.trans hE1);have HX1:=hd (HX.o.ext hE1 (by simp));have HLR:=hd hlr;have HLW:=hd hlw;have HR:=hd hR;have HWr:=hd hWr;clear hE1 hlr hlw hR hWr HT;have q3:=(HH.o.nil HE1.o).cell (i:=3) (by omega) (v:=m.lanes) rfl;have ql:=HH.o.lt;have ql1:=(HH.o.nil HE1.o).lt;have qxc:=HX1.o.cell;have qxl:=HX1.o.lt;go_wp2_with fail
 clear q3 ql1 qxc qxl;refine rgE 7 [] ?_
 simp only[TK]
 repeat(refine dE (fun wr nr hJ=>by(have hC:=HH.o.nil (HE1.o.trans hJ);have qcl:=hC.lt;have qx:=HX1.o.ext hJ (by simp);have qxc:=qx.cell;have qxl:=qx.lt;clear qx;clear hC);clear hJ;exact CL) ?_;simp only[PT])
 refine Aa (fun w2 hJ hF=>?_)
 have HC2:=hd (HH.o.nil (HE1.o.trans hJ));have HE2:=hd (HE1.o.trans hJ);have HX2:=hd (HX1.o.ext hJ (by simp));have HC3:=hd (HC2.o.setReg d hd16 (xn));have q1:=HC2.o.reg hd16;have q2:=HC2.o.chip.frozen (10+d);have q3:=HC2.o.lt;have HE3:Hd (Aj A w (w2.setCell ⟨A.c,10+d,none⟩ (.int .i64 (xn)))):=hd ((Aj.of (A:=A) HE2.o (by simp)).trans (Aj.of (A:=A) (T:=[A.c]) (er.setCell (p:=⟨A.c,10+d,none⟩) (.inl (by simp)) _) (fun x hx=>by rw[ms hx,HH.o.kd.kc];omega)));clear hF hJ;go_wp2_with fail
 go_end0
 exact⟨rfl,HE3.o,HC3.o⟩
theorem Ac1 {w:World}{A:CA}{m:Mc}{xs:List Ins}{S:MS}(h:Ag w A m xs S)(hw:WfM m S)(xk xc xp xn xm:Int)(d a b:Nat)(hv:VI m ⟨13,xk,d,a,b,xc,xp,xn,xm⟩)(hb0:Cg m S (Ae m S ⟨13,xk,d,a,b,xc,xp,xn,xm⟩) (Ab m S ⟨13,xk,d,a,b,xc,xp,xn,xm⟩)=0) :
  Calls prog 45 #[.pointer (some A.c),.agg #[(13:Int),xk,d,a,b,xc,xp,xn,xm]] w (Fb A m xs (Az m S ⟨13,xk,d,a,b,xc,xp,xn,xm⟩) w):=by
 have HEF:Hd (Az m S ⟨13,xk,d,a,b,xc,xp,xn,xm⟩={S with r:=Be S.r d (S.v a xn) }):=hd (by simp[Az]);rw[HEF.o];have HH:=hd h;have HV:=hd hv;have HW:=hd hw;have HB0:=hd hb0;have hm:=Bc h.kd.ok;have hd16:d<16:=by have:=hv.d;dsimp only at this;omega
 have ha16:a<16:=by have:=hv.a;dsimp only at this;omega
 have hb16:b<16:=by have:=hv.b;dsimp only at this;omega
 have hdZ:((d:Nat):Int)<16:=by omega
 have haZ:((a:Nat):Int)<16:=by omega
 have hbZ:((b:Nat):Int)<16:=by omega
 have HT:=hd (fun W (hW:Ext [] w W)=>Cu (h.nil hW) hw 13 xk d a b xc xp xn xm hv);have HX:=hd (Blk.new w 76 #[(13:Int),xk,d,a,b,xc,xp,xn,xm]);have HE0:=hd ((Ext.refl [] w).alloc (.cells #[(13:Int),xk,d,a,b,xc,xp,xn,xm] 76));have ha8:a<8:=by have:=hv.av (by simp);dsimp only at this;omega
 have hn:=hv.ln rfl;dsimp only at hn;obtain⟨n,rfl⟩:∃n:Nat,xn=n:=⟨xn.toNat,by omega⟩;have hn8:n<8:=by omega
 have hn8Z:((n:Nat):Int)<8:=by omega
 have ha8Z:((a:Nat):Int)<8:=by omega
 clear hn;clear h hw hv hb0;go_enter func45,ntmps45
 go_wp2_with fail
 generalize w.alloc (.cells #[(13:Int),xk,d,a,b,xc,xp,n,xm] 76)=w0 at *;generalize hxb:w.heap.size=xbk at *;refine(HT.o _ HE0.o).mono ?_
 rintro e w1 ⟨Ra,lr,cr,Wa,lw,cw,rfl,hlr,hlw,hE1,hR,hWr,-,-⟩;have HE1:=hd (HE0.o.trans hE1);have HX1:=hd (HX.o.ext hE1 (by simp));have HLR:=hd hlr;have HLW:=hd hlw;have HR:=hd hR;have HWr:=hd hWr;clear hE1 hlr hlw hR hWr HT;have q3:=(HH.o.nil HE1.o).cell (i:=3) (by omega) (v:=m.lanes) rfl;have ql:=HH.o.lt;have ql1:=(HH.o.nil HE1.o).lt;have qxc:=HX1.o.cell;have qxl:=HX1.o.lt;go_wp2_with fail
 clear q3 ql1 qxc qxl;refine rgE 15 [] ?_
 simp only[TK]
 repeat(refine dE (fun wr nr hJ=>by(have hC:=HH.o.nil (HE1.o.trans hJ);have qcl:=hC.lt;have qx:=HX1.o.ext hJ (by simp);have qxc:=qx.cell;have qxl:=qx.lt;clear qx;have qv:=hC.vcell ha8 hn8;clear hC);clear hJ;exact CL) ?_;simp only[PT])
 refine Aa (fun w2 hJ hF=>?_)
 have HC2:=hd (HH.o.nil (HE1.o.trans hJ));have HE2:=hd (HE1.o.trans hJ);have HX2:=hd (HX1.o.ext hJ (by simp));have HC3:=hd (HC2.o.setReg d hd16 (S.v (a:Nat) (n:Nat)));have q1:=HC2.o.reg hd16;have q2:=HC2.o.chip.frozen (10+d);have q3:=HC2.o.lt;have HE3:Hd (Aj A w (w2.setCell ⟨A.c,10+d,none⟩ (.int .i64 (S.v (a:Nat) (n:Nat))))):=hd ((Aj.of (A:=A) HE2.o (by simp)).trans (Aj.of (A:=A) (T:=[A.c]) (er.setCell (p:=⟨A.c,10+d,none⟩) (.inl (by simp)) _) (fun x hx=>by rw[ms hx,HH.o.kd.kc];omega)));clear hF hJ;go_wp2_with fail
 go_end0
 exact⟨rfl,HE3.o,HC3.o⟩
theorem Ae8 {w:World}{A:CA}{m:Mc}{xs:List Ins}{S:MS}(h:Ag w A m xs S)(hw:WfM m S)(xk xc xp xn xm:Int)(d a b:Nat)(hv:VI m ⟨2,xk,d,a,b,xc,xp,xn,xm⟩)(hb0:Cg m S (Ae m S ⟨2,xk,d,a,b,xc,xp,xn,xm⟩) (Ab m S ⟨2,xk,d,a,b,xc,xp,xn,xm⟩)=0) :
  Calls prog 45 #[.pointer (some A.c),.agg #[(2:Int),xk,d,a,b,xc,xp,xn,xm]] w (Fb A m xs (Az m S ⟨2,xk,d,a,b,xc,xp,xn,xm⟩) w):=by
 have HEF:Hd (Az m S ⟨2,xk,d,a,b,xc,xp,xn,xm⟩={S with r:=Be S.r d (opS xk xn xm (S.r a) (S.r b) (S.r xc)) }):=hd (by simp[Az]);rw[HEF.o];have HH:=hd h;have HV:=hd hv;have HW:=hd hw;have HB0:=hd hb0;have hm:=Bc h.kd.ok;have hd16:d<16:=by have:=hv.d;dsimp only at this;omega
 have ha16:a<16:=by have:=hv.a;dsimp only at this;omega
 have hb16:b<16:=by have:=hv.b;dsimp only at this;omega
 have hdZ:((d:Nat):Int)<16:=by omega
 have haZ:((a:Nat):Int)<16:=by omega
 have hbZ:((b:Nat):Int)<16:=by omega
 have HT:=hd (fun W (hW:Ext [] w W)=>Cu (h.nil hW) hw 2 xk d a b xc xp xn xm hv);have HX:=hd (Blk.new w 76 #[(2:Int),xk,d,a,b,xc,xp,xn,xm]);have HE0:=hd ((Ext.refl [] w).alloc (.cells #[(2:Int),xk,d,a,b,xc,xp,xn,xm] 76));have hc:=hv.cr rfl;dsimp only at hc;obtain⟨c,rfl⟩:∃n:Nat,xc=n:=⟨xc.toNat,by omega⟩;have hc16:c<16:=by omega
 have hcZ:((c:Nat):Int)<16:=by omega
 clear hc;have HO:=hd (fun W=>Pl 2 xk d a b c xp xn xm (S.r (a:Nat)) (S.r (b:Nat)) (S.r (c:Nat)) W (hv.ko (.inl rfl)) (hv.kc (.inl rfl)) hv.n hv.mm (hw.r _) (hw.r _) (hw.r _));clear h hw hv hb0;go_enter func45,ntmps45
 go_wp2_with fail
 generalize w.alloc (.cells #[(2:Int),xk,d,a,b,c,xp,xn,xm] 76)=w0 at *;generalize hxb:w.heap.size=xbk at *;refine(HT.o _ HE0.o).mono ?_
 rintro e w1 ⟨Ra,lr,cr,Wa,lw,cw,rfl,hlr,hlw,hE1,hR,hWr,-,-⟩;have HE1:=hd (HE0.o.trans hE1);have HX1:=hd (HX.o.ext hE1 (by simp));have HLR:=hd hlr;have HLW:=hd hlw;have HR:=hd hR;have HWr:=hd hWr;clear hE1 hlr hlw hR hWr HT;have q3:=(HH.o.nil HE1.o).cell (i:=3) (by omega) (v:=m.lanes) rfl;have ql:=HH.o.lt;have ql1:=(HH.o.nil HE1.o).lt;have qxc:=HX1.o.cell;have qxl:=HX1.o.lt;go_wp2_with fail
 clear q3 ql1 qxc qxl;refine rgE 28 [(25,Bv (.int .i64 (opS xk xn xm (S.r (a:Nat)) (S.r (b:Nat)) (S.r (c:Nat)))))] ?_
 simp only[TK]
 repeat(refine dE (fun wr nr hJ=>by(have hC:=HH.o.nil (HE1.o.trans hJ);have qcl:=hC.lt;have qx:=HX1.o.ext hJ (by simp);have qxc:=qx.cell;have qxl:=qx.lt;clear qx;have qra:=hC.reg ha16;have qrb:=hC.reg hb16;have qrc:=hC.reg hc16;clear hC);clear hJ;exact CL) ?_;simp only[PT])
 refine Bj rfl rfl ?_ ?_
 ·apply Exists.intro
  apply Exists.intro
  refine⟨fun wr=>?_,fun wr nr hJ=>?_⟩
  ·go_simp
   first|exact⟨rfl,rfl⟩|rfl
  ·exact(HO.o _)
 simp only[PT]
 repeat(refine dE (fun wr nr hJ=>by(have hC:=HH.o.nil (HE1.o.trans hJ);have qcl:=hC.lt;have qx:=HX1.o.ext hJ (by simp);have qxc:=qx.cell;have qxl:=qx.lt;clear qx;clear hC);clear hJ;exact CL) ?_;simp only[PT])
 refine Aa (fun w2 hJ hF=>?_)
 have HC2:=hd (HH.o.nil (HE1.o.trans hJ));have HE2:=hd (HE1.o.trans hJ);have HX2:=hd (HX1.o.ext hJ (by simp));have HC3:=hd (HC2.o.setReg d hd16 (opS xk xn xm (S.r (a:Nat)) (S.r (b:Nat)) (S.r (c:Nat))));have q1:=HC2.o.reg hd16;have q2:=HC2.o.chip.frozen (10+d);have q3:=HC2.o.lt;have HE3:Hd (Aj A w (w2.setCell ⟨A.c,10+d,none⟩ (.int .i64 (opS xk xn xm (S.r (a:Nat)) (S.r (b:Nat)) (S.r (c:Nat)))))):=hd ((Aj.of (A:=A) HE2.o (by simp)).trans (Aj.of (A:=A) (T:=[A.c]) (er.setCell (p:=⟨A.c,10+d,none⟩) (.inl (by simp)) _) (fun x hx=>by rw[ms hx,HH.o.kd.kc];omega)));clear hF hJ;go_wp2_with fail
 go_end0
 exact⟨rfl,HE3.o,HC3.o⟩
end
end Go.Proofs.YtkgmhggliifkjaaGreat
