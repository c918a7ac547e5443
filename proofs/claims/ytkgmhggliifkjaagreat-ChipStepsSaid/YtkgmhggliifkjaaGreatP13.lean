import Derived.Test.YtkgmhggliifkjaaGreatP12
namespace Go.Proofs.YtkgmhggliifkjaaGreat
open Go.RowKit Go.Proofs.Tryz
set_option linter.all false
set_option maxHeartbeats 8000000
set_option maxRecDepth 100000
attribute [local irreducible] Ax
theorem Of:∀a:Nat,a<16->bits BinOp.and IntKind.i64 (a:Int) 15=(a:Int):=by
 intro a ha;have h:a=0\/a=1\/a=2\/a=3\/a=4\/a=5\/a=6\/a=7\/a=8\/a=9\/a=10\/a=11\/a=12\/a=13\/a=14\/a=15:=by omega
 rcases h with rfl|rfl|rfl|rfl|rfl|rfl|rfl|rfl|rfl|rfl|rfl|rfl|rfl|rfl|rfl|rfl<;>decide +kernel
def Hr (m:Mc)(S:MS)(x:Ins)(w:World)(e:Ending)(w':World):Prop:=
 ∃(Ar:Option Addr) (lr cr:Nat) (Aw:Option Addr) (lw cw:Nat),e=.returned (.tuple #[.slice Ar lr cr,.slice Aw lw cw])/\(Ae m S x).length=lr/\(Ab m S x).length=lw/\Ext [] w w'/\RdA w' Ar (Ae m S x)/\RdA w' Aw (Ab m S x)/\(∀a,Ar=some a->w.heap.size<=a.block)/\∀a,Aw=some a->w.heap.size<=a.block
structure Jx (w:World)(A:CA)(m:Mc)(xs:List Ins)(S:MS)(a b:Nat)(xn xm:Int):Prop where
 chip:Ag w A m xs S
 wf:WfM m S
 a:a<16
 b:b<16
 n:isW xn
 mm:isW xm
theorem Vc {w:World}{A:CA}{m:Mc}{xs:List Ins}{S:MS}(xo xk xd xc xp xn xm:Int)(a b:Nat)(h:Jx w A m xs S a b xn xm)(hx:xo≠5/\xo≠6/\xo≠7/\xo≠8/\xo≠9/\xo≠10/\xo≠14/\xo≠18) :
  Calls prog 75 #[.pointer (some A.c),.agg #[xo,xk,xd,a,b,xc,xp,xn,xm]] w (Hr m S ⟨xo,xk,xd,a,b,xc,xp,xn,xm⟩ w):=by
 have HH:=hd h;have ha:=h.a;have hb:=h.b;have hn:=h.n;have hmm:=h.mm;have hr:=h.wf.r (a:Nat);have hr2:=h.wf.r (b:Nat);have hmc:=Bc h.chip.kd.ok;unfold isW at hn hmm hr hr2;obtain⟨hn0,hn1⟩:=hn;obtain⟨hm0,hm1⟩:=hmm;obtain⟨hr0,hr1⟩:=hr;obtain⟨hs0,hs1⟩:=hr2;have hb15:=Of a ha;have haZ:((a:Nat):Int)<16:=by omega
 have hbZ:((b:Nat):Int)<16:=by omega
 have hn5:(xo==5)=false:=by simp;omega
 have hn6:(xo==6)=false:=by simp;omega
 have hn7:(xo==7)=false:=by simp;omega
 have hn8:(xo==8)=false:=by simp;omega
 have hn9:(xo==9)=false:=by simp;omega
 have hn10:(xo==10)=false:=by simp;omega
 have hn14:(xo==14)=false:=by simp;omega
 have hn18:(xo==18)=false:=by simp;omega
 have HX:=hd hx;clear hx;clear h;go_enter func75,ntmps75
 go_wp2_with fail
 refine rgE 10 [] ?_
 simp only[TK]
 repeat(refine dE (fun wr nr hJ=>by(have hC:=HH.o.chip.nil (((Ext.refl [] w).alloc _).trans hJ);have q10:=hC.reg ha;have ql:=hC.lt;have qx:=((Blk.new w 76 #[xo,xk,xd,a,b,xc,xp,xn,xm]).ext hJ (by simp));have qxc:=qx.cell;have qxl:=qx.lt;clear qx hC);clear hJ;exact CL) ?_;simp only[PT])
 refine Aa (fun w1 hJ hF=>?_)
 have HX1:=hd ((Blk.new w 76 #[xo,xk,xd,a,b,xc,xp,xn,xm]).ext hJ (by simp));have HE:=hd (((Ext.refl [] w).alloc (.cells #[xo,xk,xd,a,b,xc,xp,xn,xm] 76)).trans hJ);have qxc:=HX1.o.cell;have qxl:=HX1.o.lt;have hww:=HE.o.size;clear hF hJ hb15;go_wp2_with fail
 go_ret2
 exact⟨none,0,0,none,0,0,rfl,by simp[Ae,HX.o],by simp[Ab,HX.o],HE.o,.inl (by simp[Ae,HX.o]),.inl (by simp[Ab,HX.o]),by simp,by simp⟩
theorem Acr {w:World}{A:CA}{m:Mc}{xs:List Ins}{S:MS}(xk xd xc xp xn xm:Int)(a b:Nat)(h:Jx w A m xs S a b xn xm) :
  Calls prog 75 #[.pointer (some A.c),.agg #[(5:Int),xk,xd,a,b,xc,xp,xn,xm]] w (Hr m S ⟨5,xk,xd,a,b,xc,xp,xn,xm⟩ w):=by
 have HH:=hd h;have ha:=h.a;have hb:=h.b;have hn:=h.n;have hmm:=h.mm;have hr:=h.wf.r (a:Nat);have hr2:=h.wf.r (b:Nat);have hmc:=Bc h.chip.kd.ok;unfold isW at hn hmm hr hr2;obtain⟨hn0,hn1⟩:=hn;obtain⟨hm0,hm1⟩:=hmm;obtain⟨hr0,hr1⟩:=hr;obtain⟨hs0,hs1⟩:=hr2;have hb15:=Of a ha;have haZ:((a:Nat):Int)<16:=by omega
 have hbZ:((b:Nat):Int)<16:=by omega
 clear h;go_enter func75,ntmps75
 go_wp2_with fail
 refine rgE 10 [] ?_
 simp only[TK]
 repeat(refine dE (fun wr nr hJ=>by(have hC:=HH.o.chip.nil (((Ext.refl [] w).alloc _).trans hJ);have q10:=hC.reg ha;have ql:=hC.lt;have qx:=((Blk.new w 76 #[(5:Int),xk,xd,a,b,xc,xp,xn,xm]).ext hJ (by simp));have qxc:=qx.cell;have qxl:=qx.lt;clear qx hC);clear hJ;exact CL) ?_;simp only[PT])
 refine Aa (fun w1 hJ hF=>?_)
 have HX1:=hd ((Blk.new w 76 #[(5:Int),xk,xd,a,b,xc,xp,xn,xm]).ext hJ (by simp));have HE:=hd (((Ext.refl [] w).alloc (.cells #[(5:Int),xk,xd,a,b,xc,xp,xn,xm] 76)).trans hJ);have qxc:=HX1.o.cell;have qxl:=HX1.o.lt;have hww:=HE.o.size;clear hF hJ hb15;go_wp2_with fail
 go_ret2
 have er:Ae m S ⟨5,xk,xd,a,b,xc,xp,xn,xm⟩=[⟨-1,S.r (a:Nat)+xn,1⟩]:=by simp[Ae]
 have ew:Ab m S ⟨5,xk,xd,a,b,xc,xp,xn,xm⟩=[]:=by simp[Ab]
 exact⟨_,1,1,none,0,0,rfl,by rw[er];rfl,by rw[ew];rfl,HE.o.alloc _,by rw[er];exact RdA.one (Blk.new _ _ _) rfl rfl rfl,.inl ew,fun _ hh=>by cases hh;exact hww,by simp⟩
theorem Acs {w:World}{A:CA}{m:Mc}{xs:List Ins}{S:MS}(xk xd xc xp xn xm:Int)(a b:Nat)(h:Jx w A m xs S a b xn xm) :
  Calls prog 75 #[.pointer (some A.c),.agg #[(6:Int),xk,xd,a,b,xc,xp,xn,xm]] w (Hr m S ⟨6,xk,xd,a,b,xc,xp,xn,xm⟩ w):=by
 have HH:=hd h;have ha:=h.a;have hb:=h.b;have hn:=h.n;have hmm:=h.mm;have hr:=h.wf.r (a:Nat);have hr2:=h.wf.r (b:Nat);have hmc:=Bc h.chip.kd.ok;unfold isW at hn hmm hr hr2;obtain⟨hn0,hn1⟩:=hn;obtain⟨hm0,hm1⟩:=hmm;obtain⟨hr0,hr1⟩:=hr;obtain⟨hs0,hs1⟩:=hr2;have hb15:=Of a ha;have haZ:((a:Nat):Int)<16:=by omega
 have hbZ:((b:Nat):Int)<16:=by omega
 clear h;go_enter func75,ntmps75
 go_wp2_with fail
 refine rgE 10 [] ?_
 simp only[TK]
 repeat(refine dE (fun wr nr hJ=>by(have hC:=HH.o.chip.nil (((Ext.refl [] w).alloc _).trans hJ);have q10:=hC.reg ha;have ql:=hC.lt;have qx:=((Blk.new w 76 #[(6:Int),xk,xd,a,b,xc,xp,xn,xm]).ext hJ (by simp));have qxc:=qx.cell;have qxl:=qx.lt;clear qx hC);clear hJ;exact CL) ?_;simp only[PT])
 refine Aa (fun w1 hJ hF=>?_)
 have HX1:=hd ((Blk.new w 76 #[(6:Int),xk,xd,a,b,xc,xp,xn,xm]).ext hJ (by simp));have HE:=hd (((Ext.refl [] w).alloc (.cells #[(6:Int),xk,xd,a,b,xc,xp,xn,xm] 76)).trans hJ);have qxc:=HX1.o.cell;have qxl:=HX1.o.lt;have hww:=HE.o.size;clear hF hJ hb15;go_wp2_with fail
 go_ret2
 have er:Ae m S ⟨6,xk,xd,a,b,xc,xp,xn,xm⟩=[]:=by simp[Ae]
 have ew:Ab m S ⟨6,xk,xd,a,b,xc,xp,xn,xm⟩=[⟨-1,S.r (a:Nat)+xn,1⟩]:=by simp[Ab]
 exact⟨none,0,0,_,1,1,rfl,by rw[er];rfl,by rw[ew];rfl,HE.o.alloc _,.inl er,by rw[ew];exact RdA.one (Blk.new _ _ _) rfl rfl rfl,by simp,fun _ hh=>by cases hh;exact hww⟩
theorem Acu {w:World}{A:CA}{m:Mc}{xs:List Ins}{S:MS}(xk xd xc xp xn xm:Int)(a b:Nat)(h:Jx w A m xs S a b xn xm) :
  Calls prog 75 #[.pointer (some A.c),.agg #[(7:Int),xk,xd,a,b,xc,xp,xn,xm]] w (Hr m S ⟨7,xk,xd,a,b,xc,xp,xn,xm⟩ w):=by
 have HH:=hd h;have ha:=h.a;have hb:=h.b;have hn:=h.n;have hmm:=h.mm;have hr:=h.wf.r (a:Nat);have hr2:=h.wf.r (b:Nat);have hmc:=Bc h.chip.kd.ok;unfold isW at hn hmm hr hr2;obtain⟨hn0,hn1⟩:=hn;obtain⟨hm0,hm1⟩:=hmm;obtain⟨hr0,hr1⟩:=hr;obtain⟨hs0,hs1⟩:=hr2;have hb15:=Of a ha;have haZ:((a:Nat):Int)<16:=by omega
 have hbZ:((b:Nat):Int)<16:=by omega
 clear h;go_enter func75,ntmps75
 go_wp2_with fail
 refine rgE 10 [] ?_
 simp only[TK]
 repeat(refine dE (fun wr nr hJ=>by(have hC:=HH.o.chip.nil (((Ext.refl [] w).alloc _).trans hJ);have q10:=hC.reg ha;have ql:=hC.lt;have qx:=((Blk.new w 76 #[(7:Int),xk,xd,a,b,xc,xp,xn,xm]).ext hJ (by simp));have qxc:=qx.cell;have qxl:=qx.lt;clear qx hC);clear hJ;exact CL) ?_;simp only[PT])
 refine Aa (fun w1 hJ hF=>?_)
 have HX1:=hd ((Blk.new w 76 #[(7:Int),xk,xd,a,b,xc,xp,xn,xm]).ext hJ (by simp));have HE:=hd (((Ext.refl [] w).alloc (.cells #[(7:Int),xk,xd,a,b,xc,xp,xn,xm] 76)).trans hJ);have qxc:=HX1.o.cell;have qxl:=HX1.o.lt;have hww:=HE.o.size;clear hF hJ hb15;go_wp2_with fail
 go_ret2
 have er:Ae m S ⟨7,xk,xd,a,b,xc,xp,xn,xm⟩=[⟨xc,S.r (a:Nat)+xn,1⟩]:=by simp[Ae]
 have ew:Ab m S ⟨7,xk,xd,a,b,xc,xp,xn,xm⟩=[]:=by simp[Ab]
 exact⟨_,1,1,none,0,0,rfl,by rw[er];rfl,by rw[ew];rfl,HE.o.alloc _,by rw[er];exact RdA.one (Blk.new _ _ _) rfl rfl rfl,.inl ew,fun _ hh=>by cases hh;exact hww,by simp⟩
theorem Acv {w:World}{A:CA}{m:Mc}{xs:List Ins}{S:MS}(xk xd xc xp xn xm:Int)(a b:Nat)(h:Jx w A m xs S a b xn xm) :
  Calls prog 75 #[.pointer (some A.c),.agg #[(8:Int),xk,xd,a,b,xc,xp,xn,xm]] w (Hr m S ⟨8,xk,xd,a,b,xc,xp,xn,xm⟩ w):=by
 have HH:=hd h;have ha:=h.a;have hb:=h.b;have hn:=h.n;have hmm:=h.mm;have hr:=h.wf.r (a:Nat);have hr2:=h.wf.r (b:Nat);have hmc:=Bc h.chip.kd.ok;unfold isW at hn hmm hr hr2;obtain⟨hn0,hn1⟩:=hn;obtain⟨hm0,hm1⟩:=hmm;obtain⟨hr0,hr1⟩:=hr;obtain⟨hs0,hs1⟩:=hr2;have hb15:=Of a ha;have haZ:((a:Nat):Int)<16:=by omega
 have hbZ:((b:Nat):Int)<16:=by omega
 clear h;go_enter func75,ntmps75
 go_wp2_with fail
 refine rgE 10 [] ?_
 simp only[TK]
 repeat(refine dE (fun wr nr hJ=>by(have hC:=HH.o.chip.nil (((Ext.refl [] w).alloc _).trans hJ);have q10:=hC.reg ha;have ql:=hC.lt;have qx:=((Blk.new w 76 #[(8:Int),xk,xd,a,b,xc,xp,xn,xm]).ext hJ (by simp));have qxc:=qx.cell;have qxl:=qx.lt;clear qx hC);clear hJ;exact CL) ?_;simp only[PT])
 refine Aa (fun w1 hJ hF=>?_)
 have HX1:=hd ((Blk.new w 76 #[(8:Int),xk,xd,a,b,xc,xp,xn,xm]).ext hJ (by simp));have HE:=hd (((Ext.refl [] w).alloc (.cells #[(8:Int),xk,xd,a,b,xc,xp,xn,xm] 76)).trans hJ);have qxc:=HX1.o.cell;have qxl:=HX1.o.lt;have hww:=HE.o.size;clear hF hJ hb15;go_wp2_with fail
 go_ret2
 have er:Ae m S ⟨8,xk,xd,a,b,xc,xp,xn,xm⟩=[]:=by simp[Ae]
 have ew:Ab m S ⟨8,xk,xd,a,b,xc,xp,xn,xm⟩=[⟨xc,S.r (a:Nat)+xn,1⟩]:=by simp[Ab]
 exact⟨none,0,0,_,1,1,rfl,by rw[er];rfl,by rw[ew];rfl,HE.o.alloc _,.inl er,by rw[ew];exact RdA.one (Blk.new _ _ _) rfl rfl rfl,by simp,fun _ hh=>by cases hh;exact hww⟩
theorem Acw {w:World}{A:CA}{m:Mc}{xs:List Ins}{S:MS}(xk xd xc xp xn xm:Int)(a b:Nat)(h:Jx w A m xs S a b xn xm) :
  Calls prog 75 #[.pointer (some A.c),.agg #[(9:Int),xk,xd,a,b,xc,xp,xn,xm]] w (Hr m S ⟨9,xk,xd,a,b,xc,xp,xn,xm⟩ w):=by
 have HH:=hd h;have ha:=h.a;have hb:=h.b;have hn:=h.n;have hmm:=h.mm;have hr:=h.wf.r (a:Nat);have hr2:=h.wf.r (b:Nat);have hmc:=Bc h.chip.kd.ok;unfold isW at hn hmm hr hr2;obtain⟨hn0,hn1⟩:=hn;obtain⟨hm0,hm1⟩:=hmm;obtain⟨hr0,hr1⟩:=hr;obtain⟨hs0,hs1⟩:=hr2;have hb15:=Of a ha;have haZ:((a:Nat):Int)<16:=by omega
 have hbZ:((b:Nat):Int)<16:=by omega
 clear h;go_enter func75,ntmps75
 go_wp2_with fail
 refine rgE 10 [] ?_
 simp only[TK]
 repeat(refine dE (fun wr nr hJ=>by(have hC:=HH.o.chip.nil (((Ext.refl [] w).alloc _).trans hJ);have q10:=hC.reg ha;have ql:=hC.lt;have qx:=((Blk.new w 76 #[(9:Int),xk,xd,a,b,xc,xp,xn,xm]).ext hJ (by simp));have qxc:=qx.cell;have qxl:=qx.lt;clear qx hC);clear hJ;exact CL) ?_;simp only[PT])
 refine Aa (fun w1 hJ hF=>?_)
 have HX1:=hd ((Blk.new w 76 #[(9:Int),xk,xd,a,b,xc,xp,xn,xm]).ext hJ (by simp));have HE:=hd (((Ext.refl [] w).alloc (.cells #[(9:Int),xk,xd,a,b,xc,xp,xn,xm] 76)).trans hJ);have qxc:=HX1.o.cell;have qxl:=HX1.o.lt;have hww:=HE.o.size;clear hF hJ hb15;go_wp2_with fail
 refine rgE 8 [] ?_
 simp only[TK]
 repeat(refine dE (fun wr nr hJ=>by(have hC:=HH.o.chip.nil (HE.o.trans hJ);have q3:=hC.cell (i:=3) (by omega) (v:=m.lanes) rfl;have ql:=hC.lt;have qx:=HX1.o.ext hJ (by simp);have qxc:=qx.cell;have qxl:=qx.lt;clear qx hC);clear hJ;exact CL) ?_;simp only[PT])
 refine Aa (fun w2 hJ hF=>?_)
 have HE2:=hd (HE.o.trans hJ);have hww2:=HE2.o.size;clear hF hJ;go_wp2_with fail
 go_ret2
 have er:Ae m S ⟨9,xk,xd,a,b,xc,xp,xn,xm⟩=[⟨xc,S.r (a:Nat)+xn,m.lanes⟩]:=by simp[Ae]
 have ew:Ab m S ⟨9,xk,xd,a,b,xc,xp,xn,xm⟩=[]:=by simp[Ab]
 exact⟨_,1,1,none,0,0,rfl,by rw[er];rfl,by rw[ew];rfl,HE2.o.alloc _,by rw[er];exact RdA.one (Blk.new _ _ _) rfl rfl rfl,.inl ew,fun _ hh=>by cases hh;exact hww2,by simp⟩
theorem Zy {w:World}{A:CA}{m:Mc}{xs:List Ins}{S:MS}(xk xd xc xp xn xm:Int)(a b:Nat)(h:Jx w A m xs S a b xn xm) :
  Calls prog 75 #[.pointer (some A.c),.agg #[(10:Int),xk,xd,a,b,xc,xp,xn,xm]] w (Hr m S ⟨10,xk,xd,a,b,xc,xp,xn,xm⟩ w):=by
 have HH:=hd h;have ha:=h.a;have hb:=h.b;have hn:=h.n;have hmm:=h.mm;have hr:=h.wf.r (a:Nat);have hr2:=h.wf.r (b:Nat);have hmc:=Bc h.chip.kd.ok;unfold isW at hn hmm hr hr2;obtain⟨hn0,hn1⟩:=hn;obtain⟨hm0,hm1⟩:=hmm;obtain⟨hr0,hr1⟩:=hr;obtain⟨hs0,hs1⟩:=hr2;have hb15:=Of a ha;have haZ:((a:Nat):Int)<16:=by omega
 have hbZ:((b:Nat):Int)<16:=by omega
 clear h;go_enter func75,ntmps75
 go_wp2_with fail
 refine rgE 10 [] ?_
 simp only[TK]
 repeat(refine dE (fun wr nr hJ=>by(have hC:=HH.o.chip.nil (((Ext.refl [] w).alloc _).trans hJ);have q10:=hC.reg ha;have ql:=hC.lt;have qx:=((Blk.new w 76 #[(10:Int),xk,xd,a,b,xc,xp,xn,xm]).ext hJ (by simp));have qxc:=qx.cell;have qxl:=qx.lt;clear qx hC);clear hJ;exact CL) ?_;simp only[PT])
 refine Aa (fun w1 hJ hF=>?_)
 have HX1:=hd ((Blk.new w 76 #[(10:Int),xk,xd,a,b,xc,xp,xn,xm]).ext hJ (by simp));have HE:=hd (((Ext.refl [] w).alloc (.cells #[(10:Int),xk,xd,a,b,xc,xp,xn,xm] 76)).trans hJ);have qxc:=HX1.o.cell;have qxl:=HX1.o.lt;have hww:=HE.o.size;clear hF hJ hb15;go_wp2_with fail
 refine rgE 8 [] ?_
 simp only[TK]
 repeat(refine dE (fun wr nr hJ=>by(have hC:=HH.o.chip.nil (HE.o.trans hJ);have q3:=hC.cell (i:=3) (by omega) (v:=m.lanes) rfl;have ql:=hC.lt;have qx:=HX1.o.ext hJ (by simp);have qxc:=qx.cell;have qxl:=qx.lt;clear qx hC);clear hJ;exact CL) ?_;simp only[PT])
 refine Aa (fun w2 hJ hF=>?_)
 have HE2:=hd (HE.o.trans hJ);have hww2:=HE2.o.size;clear hF hJ;go_wp2_with fail
 go_ret2
 have er:Ae m S ⟨10,xk,xd,a,b,xc,xp,xn,xm⟩=[]:=by simp[Ae]
 have ew:Ab m S ⟨10,xk,xd,a,b,xc,xp,xn,xm⟩=[⟨xc,S.r (a:Nat)+xn,m.lanes⟩]:=by simp[Ab]
 exact⟨none,0,0,_,1,1,rfl,by rw[er];rfl,by rw[ew];rfl,HE2.o.alloc _,.inl er,by rw[ew];exact RdA.one (Blk.new _ _ _) rfl rfl rfl,by simp,fun _ hh=>by cases hh;exact hww2⟩
def Qb (l:List Ar):List Value:=l.flatMap Ar.cells
theorem Acx (l:List Ar)(a:Ar):Qb (l ++ [a])=Qb l ++ a.cells:=by simp[Qb]
theorem Ae5 (l:List Ar)(k:Nat)(a:Ar)(h:l[k]? = some a):(Qb l)[k*3]? = some (.int .i64 a.bank)/\(Qb l)[k*3+1]? = some (.int .i64 a.lo)/\(Qb l)[k*3+2]? = some (.int .i64 a.size):=by
 induction l generalizing k with
 | nil=>simp at h
 | cons b l ih=>
  have e:Qb (b :: l)=b.cells ++ Qb l:=rfl;rw[e];cases k with
  | zero=>simp at h;subst h;exact⟨rfl,rfl,rfl⟩
  | succ k=>
   have hb:b.cells.length=3:=rfl;have:=ih k (by simpa using h);rw[List.getElem?_append_right (by omega),List.getElem?_append_right (by omega),List.getElem?_append_right (by omega),hb];rw[show(k+1)*3-3=k*3 by omega,show(k+1)*3+1-3=k*3+1 by omega,show(k+1)*3+2-3=k*3+2 by omega];exact this
theorem RdA.own {w:World}{B n:Nat}{v:Value}{l:List Ar}(h:w.ownsRow B 91 3 v n (Qb l))(hn:l.length=n):∃A c,v=.slice A n c/\RdA w A l/\∀a,A=some a->B<=a.block:=by
 rcases h.2 with⟨rfl,hx⟩|⟨g,c,cur,rfl,hb,hg,hc,hs,hp⟩
 ·have h0:l=[]:=by
   cases l with
   | nil=>rfl
   | cons a l=>rw[List.length_cons] at hn;omega
  subst h0;subst hn;exact⟨none,0,rfl,.inl rfl,by simp⟩
 ·refine⟨_,_,rfl,.inr ⟨g,0,rfl,fun k a ha=>?_⟩,fun a ha=>by cases ha;exact hb⟩
  obtain⟨h1,h2,h3⟩:=Ae5 l k a ha;have hcell:=h.cells (g:=g) rfl;rw[Nat.zero_add];have f:=fun j u (hu:(Qb l)[j]? = some u)=>by have:=hcell j u hu;rw[Addr.add_mk,Nat.zero_add] at this;exact this
  exact⟨f _ _ h1,f _ _ h2,f _ _ h3⟩
def sAr (x y z:Int):Bo:=⟨Nat,0,fun b=>.slice (some ⟨b,0,none⟩) 1 1,fun b w=>Blk w b 91 #[x,y,z]⟩
theorem sAr.stays {x y z:Int}:∀u w w',RH [] w w'->(sAr x y z).V u w->(sAr x y z).V u w':=fun _ _ _ hR h=>Blk.ext h hR.1 List.not_mem_nil
def Kh (c at' st sz:Int)(k:Nat):List Ar:=(List.range k).map fun i=>⟨c,at'+(i:Nat)*st,sz⟩
theorem Ip (c at' st sz:Int)(k:Nat):(Kh c at' st sz k).length=k:=by simp[Kh]
theorem Rd (c at' st sz:Int)(k:Nat):Kh c at' st sz (k+1)=Kh c at' st sz k ++ [⟨c,at'+(k:Nat)*st,sz⟩]:=by simp[Kh,List.range_succ]
theorem Zz {w:World}{A:CA}{m:Mc}{xs:List Ins}{S:MS}(xk xd xc xp xn xm:Int)(a b:Nat)(h:Jx w A m xs S a b xn xm)(hxm:0<=xm/\xm<=4096) :
  Calls prog 75 #[.pointer (some A.c),.agg #[(14:Int),xk,xd,a,b,xc,xp,xn,xm]] w (Hr m S ⟨14,xk,xd,a,b,xc,xp,xn,xm⟩ w):=by
 have HH:=hd h;have ha:=h.a;have hb:=h.b;have hn:=h.n;have hmm:=h.mm;have hr:=h.wf.r (a:Nat);have hr2:=h.wf.r (b:Nat);have hmc:=Bc h.chip.kd.ok;unfold isW at hn hmm hr hr2;obtain⟨hn0,hn1⟩:=hn;obtain⟨hm0,hm1⟩:=hmm;obtain⟨hr0,hr1⟩:=hr;obtain⟨hs0,hs1⟩:=hr2;have hb15:=Of a ha;have haZ:((a:Nat):Int)<16:=by omega
 have hbZ:((b:Nat):Int)<16:=by omega
 obtain⟨L,hL⟩:∃L:Nat,m.lanes=L:=⟨m.lanes.toNat,by omega⟩;have hL8:L<=8:=by omega
 have HLL:=hd hL;obtain⟨hxm0,hxm1⟩:=hxm;obtain⟨i0,hi0,hz0,hz1,hz2⟩:=info_parts (show((prog).info? 91).map (fun i=>(i.zero,i.size,i.bytes))=some (some (.agg #[(0:Int),(0:Int),(0:Int)]),3,24) by kernel_rfl);clear hL;clear h;go_enter func75,ntmps75
 go_wp2_with fail
 refine rgE 10 [] ?_
 simp only[TK]
 repeat(refine dE (fun wr nr hJ=>by(have hC:=HH.o.chip.nil (((Ext.refl [] w).alloc _).trans hJ);have q10:=hC.reg ha;have ql:=hC.lt;have qx:=((Blk.new w 76 #[(14:Int),xk,xd,a,b,xc,xp,xn,xm]).ext hJ (by simp));have qxc:=qx.cell;have qxl:=qx.lt;clear qx hC);clear hJ;exact CL) ?_;simp only[PT])
 refine Aa (fun w1 hJ hF=>?_)
 have HX1:=hd ((Blk.new w 76 #[(14:Int),xk,xd,a,b,xc,xp,xn,xm]).ext hJ (by simp));have HE:=hd (((Ext.refl [] w).alloc (.cells #[(14:Int),xk,xd,a,b,xc,xp,xn,xm] 76)).trans hJ);have qxc:=HX1.o.cell;have qxl:=HX1.o.lt;have hww:=HE.o.size;clear hF hJ hb15;obtain⟨R6,hR6⟩:∃R6,R6=S.r (a:Nat)+xn:=⟨_,rfl⟩;have HR6:=hd hR6;have hR60 : -4294967296<=R6:=by omega
 have hR61:R6<=4294967296:=by omega
 have hC:=HH.o.chip.nil HE.o;have q3:=hC.cell (i:=3) (by omega) (v:=m.lanes) rfl;rw[HLL.o] at q3;have ql:=hC.lt;clear hC;go_wp2_with fail
 rw[<-hR6];clear hR6 qxc qxl q3 ql;go_loopw [4,78] (fun v i wr=>∃(k:Nat) (u:Value),i=.int .i64 k/\u=v/\k<=L/\Hd (Ext [] w1 wr)/\Hd (wr.ownsRow w1.heap.size 91 3 u k (Qb (Kh xc R6 xm L k)))) (fun _ i _=>(L-intOf i).toNat)
 case atStart=>exact⟨0,_,rfl,rfl,by omega,hd er,hd ⟨rfl,.inl ⟨rfl,rfl⟩⟩⟩
 case round=>
  obtain⟨k,u,rfl,rfl,hk,HE4,HO4⟩:=hrel;rename World=>wq
  by_cases hlt:k<L
  ·have hkx0:0<=(k:Int)*xm:=Int.mul_nonneg (by omega) hxm0;have hkx1:(k:Int)*xm<=8*4096:=Int.mul_le_mul (by omega) hxm1 hxm0 (by omega);obtain⟨P,hP⟩:∃P,P=(k:Int)*xm:=⟨_,rfl⟩;have hw1:IntKind.i64.wrap ((k:Int)*xm)=P:=by rw[hP];exact IntWalk.i64_in _ (by omega)
   rw[<-hP] at hkx0 hkx1;have hw2:IntKind.i64.wrap (R6+P)=R6+P:=IntWalk.i64_in _ (by omega);have HP:=hd hP;clear hP;have HE5:=hd (HE.o.trans HE4.o);have hww4:=HE4.o.size;have hww5:=HE5.o.size;go_wp2_with fail
   refine rgH 16 [(15,sAr xc (R6+P) L)] ?_ ?_
   ·exact Ah.cons sAr.stays Ah.nil
   simp only[TK]
   repeat(refine dE (fun wr nr hJ=>by(have hC:=HH.o.chip.nil (HE5.o.trans hJ.1);have q3:=hC.cell (i:=3) (by omega) (v:=m.lanes) rfl;rw[HLL.o] at q3;have ql:=hC.lt;have qx:=HX1.o.ext (HE4.o.trans hJ.1) (by simp);have qxc:=qx.cell;have qxl:=qx.lt;clear qx hC);clear hJ;exact CL) ?_;simp only[PT])
   refine Ct (sAr xc (R6+P) L) rfl rfl ?_ ?_
   ·intro wr nr hJ hf;refine⟨wr.heap.size,.cells #[xc,(R6+P),L] 91,?_,Blk.new _ _ _⟩
    clear hJ hf;go_simp
    first|rfl|exact⟨rfl,rfl⟩
   intro (b15:Nat);simp only[PT];dsimp only[sAr];refine Aa (fun w6 hJ hF=>?_)
   have hB15:Blk w6 b15 91 #[xc,(R6+P),L]:=hF 15;have HB15:=hd hB15;have HE6:=hd (HE4.o.trans hJ.1);have HO6:=hd (An HO4.o hJ.1 (by simp));have hww6:=hJ.1.size;clear hF hJ hB15 hw1 hw2
   go_wp2_with (
    refine wpList_append_lies _ rfl _ _ 122 rfl w1.heap.size 91 i0 _ 3 24 underlying122 hi0 hz0 hz1 hz2 rfl (by decide) _ k _ rfl HO6.o ⟨b15,0,none⟩ 1 1 [.int .i64 xc,.int .i64 (R6+P),.int .i64 L] rfl rfl ?c1 ?c2 (by decide) ?c3 ?c4 ?c5 _ rfl ?_
    case c1=>exact World.news_of_block HB15.o
    case c2=>intro y hy;simp at hy;rcases hy with rfl|rfl|rfl<;>rfl
    case c3=>unfold maxLen;omega
    case c4=>omega
    case c5=>omega
    intro g2 cap2 w8 ho8 hg8 ha8 hlt8;have HO8:Hd (w8.ownsRow w1.heap.size 91 3 (.slice (some g2) (k+1) cap2) (k+1) (Qb (Kh xc R6 xm L (k+1)))):=hd (by rw[Rd,Acx,<-HP.o];exact ho8);have HE8:Hd (Ext [] w1 w8):=hd (HE6.o.grown hg8 (fun q hq=>.inr (Bf HO6.o q hq)));clear ho8 hg8 ha8 hlt8)
   go_roundw
   case rel=>exact⟨k+1,_,by go_num,rfl,by omega,HE8,HO8⟩
   case measure=>simp[intOf];omega
  ·have hkL:k=L:=by omega
   subst hkL
   have er:Ae m S ⟨14,xk,xd,a,b,xc,xp,xn,xm⟩=Kh xc R6 xm k k:=by
    have e1:m.lanes.toNat=k:=by rw[HLL.o];exact Int.toNat_natCast k
    simp only[Ae,Kh,HR6.o,e1,HLL.o];simp
   have ew:Ab m S ⟨14,xk,xd,a,b,xc,xp,xn,xm⟩=[]:=by simp[Ab]
   obtain⟨Ar,cr,rfl,hrd,hge⟩:=RdA.own HO4.o (Ip _ _ _ _ _);have HRD:=hd hrd;have HGE:Hd (∀y,Ar=some y->w.heap.size<=y.block):=hd (fun y hy=>nt hww (hge y hy));have HER:=hd er;have HEW:=hd ew;clear hrd hge er ew;go_wp2_with fail
   go_ret2
   exact⟨Ar,k,cr,none,0,0,rfl,by rw[HER.o,Ip],by rw[HEW.o];rfl,HE.o.trans HE4.o,by rw[HER.o];exact HRD.o,.inl HEW.o,HGE.o,by simp⟩
end Go.Proofs.YtkgmhggliifkjaaGreat
