import Derived.Test.YtkgmhggliifkjaaGreatP16
namespace Go.Proofs.YtkgmhggliifkjaaGreat
open Go.RowKit Go.Proofs.Tryz
set_option linter.all false
set_option maxHeartbeats 8000000
set_option maxRecDepth 100000
section
attribute [local irreducible] Ax
def sSl (g lo sz:Nat):Bo:=⟨Nat,0,fun cap=>.slice (some ⟨g,lo,none⟩) sz cap,fun cap _=>sz<=cap⟩
theorem sSl.stays {g lo sz:Nat}{R:World->World->Prop}:∀u w w',R w w'->(sSl g lo sz).V u w->(sSl g lo sz).V u w':=fun _ _ _ _ h=>h
def sW1 (x:Int):Bo:=⟨Nat,0,fun b=>.slice (some ⟨b,0,none⟩) 1 1,fun b w=>Blk w b 3 #[x]⟩
theorem sW1.stays {x:Int}:∀u w w',RH [] w w'->(sW1 x).V u w->(sW1 x).V u w':=fun _ _ _ hR h=>Blk.ext h hR.1 List.not_mem_nil
theorem Ae9 {w:World}{A:CA}{m:Mc}{xs:List Ins}{S:MS}(h:Ag w A m xs S)(hw:WfM m S)(xk xc xp xn xm:Int)(d a b:Nat)(hv:VI m ⟨5,xk,d,a,b,xc,xp,xn,xm⟩)(hb0:Cg m S (Ae m S ⟨5,xk,d,a,b,xc,xp,xn,xm⟩) (Ab m S ⟨5,xk,d,a,b,xc,xp,xn,xm⟩)=0) :
  Calls prog 45 #[.pointer (some A.c),.agg #[(5:Int),xk,d,a,b,xc,xp,xn,xm]] w (Fb A m xs (Az m S ⟨5,xk,d,a,b,xc,xp,xn,xm⟩) w):=by
 have HEF:Hd (Az m S ⟨5,xk,d,a,b,xc,xp,xn,xm⟩={S with r:=Be S.r d (S.mem (-1) (S.r a+xn)) }):=hd (by simp[Az,Ae,MS.words]);rw[HEF.o];have HH:=hd h;have HV:=hd hv;have HW:=hd hw;have HB0:=hd hb0;have hm:=Bc h.kd.ok;have hd16:d<16:=by have:=hv.d;dsimp only at this;omega
 have ha16:a<16:=by have:=hv.a;dsimp only at this;omega
 have hb16:b<16:=by have:=hv.b;dsimp only at this;omega
 have hdZ:((d:Nat):Int)<16:=by omega
 have haZ:((a:Nat):Int)<16:=by omega
 have hbZ:((b:Nat):Int)<16:=by omega
 have HT:=hd (fun W (hW:Ext [] w W)=>Cu (h.nil hW) hw 5 xk d a b xc xp xn xm hv);have HX:=hd (Blk.new w 76 #[(5:Int),xk,d,a,b,xc,xp,xn,xm]);have HE0:=hd ((Ext.refl [] w).alloc (.cells #[(5:Int),xk,d,a,b,xc,xp,xn,xm] 76));have hr:=(Fm (by rw[hb0];decide)).1 ⟨-1,S.r (a:Nat)+xn,1⟩ (by simp[Ae]);have ho:=Cq hr;have hsz:Bn m (-1)=m.main:=rfl;dsimp only at ho;rw[hsz] at ho;obtain⟨lo,hlo⟩:∃n:Nat,S.r (a:Nat)+xn=n:=⟨(S.r (a:Nat)+xn).toNat,by omega⟩;rw[hlo] at ho;have hloN:lo+1<=m.main.toNat:=by omega
 have HLO:=hd hlo;have HER:Hd (Ae m S ⟨5,xk,d,a,b,xc,xp,xn,xm⟩=[⟨-1,(lo:Nat),1⟩]):=hd (by simp[Ae,hlo]);clear hr ho hsz hlo;clear h hw hv hb0;go_enter func45,ntmps45
 go_wp2_with fail
 generalize w.alloc (.cells #[(5:Int),xk,d,a,b,xc,xp,xn,xm] 76)=w0 at *;generalize hxb:w.heap.size=xbk at *;refine(HT.o _ HE0.o).mono ?_
 rintro e w1 ⟨Ra,lr,cr,Wa,lw,cw,rfl,hlr,hlw,hE1,hR,hWr,-,-⟩;have HE1:=hd (HE0.o.trans hE1);have HX1:=hd (HX.o.ext hE1 (by simp));have HLR:=hd hlr;have HLW:=hd hlw;have HR:=hd hR;have HWr:=hd hWr;clear hE1 hlr hlw hR hWr HT;have q3:=(HH.o.nil HE1.o).cell (i:=3) (by omega) (v:=m.lanes) rfl;have ql:=HH.o.lt;have ql1:=(HH.o.nil HE1.o).lt;have qxc:=HX1.o.cell;have qxl:=HX1.o.lt;go_wp2_with fail
 clear q3 ql1 qxc qxl;rw[HLO.o];have hR1:=HR.o;rw[HER.o] at hR1;have hl1:lr=1:=by rw[<-HLR.o,HER.o];rfl
 subst hl1;obtain⟨rb,ro,rfl,hrb,hr0,hr1,hr2⟩:=hR1.at (k:=0) rfl;dsimp only at hr0 hr1 hr2;have HR0:=hd hr0;have HR1:=hd hr1;have HR2:=hd hr2;clear hr0 hr1 hr2 hR1;refine rgH 12 [(7,sSl A.mb lo 1)] ?_ ?_
 ·exact Ah.cons sSl.stays Ah.nil
 simp only[TK]
 repeat(refine dE (fun wr nr hJ=>by(have hC:=HH.o.nil (HE1.o.trans hJ.1);have qcl:=hC.lt;have qx:=HX1.o.ext hJ.1 (by simp);have qxc:=qx.cell;have qxl:=qx.lt;clear qx;have c0:=hJ.1.held HR0.o (by simp);have c1:=hJ.1.held HR1.o (by simp);have c2:=hJ.1.held HR2.o (by simp);simp only[Nat.zero_mul,Nat.add_zero] at c0 c1 c2;have cl:rb<wr.heap.size:=nl hrb hJ.1.size;clear hC);clear hJ;exact CL) ?_;simp only[PT])
 refine Et (sSl A.mb lo 1) rfl rfl ?_ ?_
 ·apply Exists.intro
  apply Exists.intro
  refine⟨fun wr=>?_,fun wr nr hJ _=>?_⟩
  ·go_simp
   first|exact⟨rfl,rfl⟩|rfl
  ·refine(Lv (HH.o.nil (HE1.o.trans hJ.1)) lo 1 (by omega) hloN).mono ?_
   rintro e w' ⟨cap,rfl,hcap,hE⟩;exact⟨cap,rfl,hcap,hE⟩
 intro (cap:Nat);simp only[PT];dsimp only[sSl]
 repeat(refine dE (fun wr nr hJ=>by(have hC:=HH.o.nil (HE1.o.trans hJ.1);have qcl:=hC.lt;have qx:=HX1.o.ext hJ.1 (by simp);have qxc:=qx.cell;have qxl:=qx.lt;clear qx;have cm:=hC.mem.main.cell (i:=lo) (by omega);have cml:=hC.mem.main.lt;clear hC);clear hJ;exact CL) ?_;simp only[PT])
 refine Aa (fun w2 hJ hF=>?_)
 have HC2:=hd (HH.o.nil (HE1.o.trans hJ.1));have HE2:=hd (HE1.o.trans hJ.1);have HX2:=hd (HX1.o.ext hJ.1 (by simp));have HC3:=hd (HC2.o.setReg d hd16 (S.mem (-1) (lo:Nat)));have q1:=HC2.o.reg hd16;have q2:=HC2.o.chip.frozen (10+d);have q3:=HC2.o.lt;have HE3:Hd (Aj A w (w2.setCell ⟨A.c,10+d,none⟩ (.int .i64 (S.mem (-1) (lo:Nat))))):=hd ((Aj.of (A:=A) HE2.o (by simp)).trans (Aj.of (A:=A) (T:=[A.c]) (er.setCell (p:=⟨A.c,10+d,none⟩) (.inl (by simp)) _) (fun x hx=>by rw[ms hx,HH.o.kd.kc];omega)));clear hF hJ;go_wp2_with fail
 go_end0
 exact⟨rfl,HE3.o,HC3.o⟩
theorem Afa {w:World}{A:CA}{m:Mc}{xs:List Ins}{S:MS}(h:Ag w A m xs S)(hw:WfM m S)(xk xc xp xn xm:Int)(d a b:Nat)(hv:VI m ⟨7,xk,d,a,b,xc,xp,xn,xm⟩)(hb0:Cg m S (Ae m S ⟨7,xk,d,a,b,xc,xp,xn,xm⟩) (Ab m S ⟨7,xk,d,a,b,xc,xp,xn,xm⟩)=0) :
  Calls prog 45 #[.pointer (some A.c),.agg #[(7:Int),xk,d,a,b,xc,xp,xn,xm]] w (Fb A m xs (Az m S ⟨7,xk,d,a,b,xc,xp,xn,xm⟩) w):=by
 have HEF:Hd (Az m S ⟨7,xk,d,a,b,xc,xp,xn,xm⟩={S with r:=Be S.r d (S.mem xc (S.r a+xn)) }):=hd (by simp[Az,Ae,MS.words]);rw[HEF.o];have HH:=hd h;have HV:=hd hv;have HW:=hd hw;have HB0:=hd hb0;have hm:=Bc h.kd.ok;have hd16:d<16:=by have:=hv.d;dsimp only at this;omega
 have ha16:a<16:=by have:=hv.a;dsimp only at this;omega
 have hb16:b<16:=by have:=hv.b;dsimp only at this;omega
 have hdZ:((d:Nat):Int)<16:=by omega
 have haZ:((a:Nat):Int)<16:=by omega
 have hbZ:((b:Nat):Int)<16:=by omega
 have HT:=hd (fun W (hW:Ext [] w W)=>Cu (h.nil hW) hw 7 xk d a b xc xp xn xm hv);have HX:=hd (Blk.new w 76 #[(7:Int),xk,d,a,b,xc,xp,xn,xm]);have HE0:=hd ((Ext.refl [] w).alloc (.cells #[(7:Int),xk,d,a,b,xc,xp,xn,xm] 76));have hr:=(Fm (by rw[hb0];decide)).1 ⟨xc,S.r (a:Nat)+xn,1⟩ (by simp[Ae]);have ho:=Cq hr;have hcb:=hv.cb (by simp);dsimp only at hcb;obtain⟨c,rfl⟩:∃n:Nat,xc=n:=⟨xc.toNat,by omega⟩;have hcB:c<m.banks.toNat:=by omega
 have hsz:Bn m ((c:Nat):Int)=m.bank:=by unfold Bn;rw[ijn (by omega)]
 dsimp only at ho;rw[hsz] at ho;obtain⟨lo,hlo⟩:∃n:Nat,S.r (a:Nat)+xn=n:=⟨(S.r (a:Nat)+xn).toNat,by omega⟩;rw[hlo] at ho;have hloN:lo+1<=m.bank.toNat:=by omega
 have HLO:=hd hlo;have HER:Hd (Ae m S ⟨7,xk,d,a,b,(c:Nat),xp,xn,xm⟩=[⟨(c:Nat),(lo:Nat),1⟩]):=hd (by simp[Ae,hlo]);clear hr ho hsz hlo;have hcI:(0:Int)<=(c:Nat):=by omega
 clear h hw hv hb0;go_enter func45,ntmps45
 go_wp2_with fail
 generalize w.alloc (.cells #[(7:Int),xk,d,a,b,c,xp,xn,xm] 76)=w0 at *;generalize hxb:w.heap.size=xbk at *;refine(HT.o _ HE0.o).mono ?_
 rintro e w1 ⟨Ra,lr,cr,Wa,lw,cw,rfl,hlr,hlw,hE1,hR,hWr,-,-⟩;have HE1:=hd (HE0.o.trans hE1);have HX1:=hd (HX.o.ext hE1 (by simp));have HLR:=hd hlr;have HLW:=hd hlw;have HR:=hd hR;have HWr:=hd hWr;clear hE1 hlr hlw hR hWr HT;have q3:=(HH.o.nil HE1.o).cell (i:=3) (by omega) (v:=m.lanes) rfl;have ql:=HH.o.lt;have ql1:=(HH.o.nil HE1.o).lt;have qxc:=HX1.o.cell;have qxl:=HX1.o.lt;go_wp2_with fail
 clear q3 ql1 qxc qxl;rw[HLO.o];have hR1:=HR.o;rw[HER.o] at hR1;have hl1:lr=1:=by rw[<-HLR.o,HER.o];rfl
 subst hl1;obtain⟨rb,ro,rfl,hrb,hr0,hr1,hr2⟩:=hR1.at (k:=0) rfl;dsimp only at hr0 hr1 hr2;have HR0:=hd hr0;have HR1:=hd hr1;have HR2:=hd hr2;clear hr0 hr1 hr2 hR1;refine rgH 12 [(7,sSl (A.bk c) lo 1)] ?_ ?_
 ·exact Ah.cons sSl.stays Ah.nil
 simp only[TK]
 repeat(refine dE (fun wr nr hJ=>by(have hC:=HH.o.nil (HE1.o.trans hJ.1);have qcl:=hC.lt;have qx:=HX1.o.ext hJ.1 (by simp);have qxc:=qx.cell;have qxl:=qx.lt;clear qx;have c0:=hJ.1.held HR0.o (by simp);have c1:=hJ.1.held HR1.o (by simp);have c2:=hJ.1.held HR2.o (by simp);simp only[Nat.zero_mul,Nat.add_zero] at c0 c1 c2;have cl:rb<wr.heap.size:=nl hrb hJ.1.size;clear hC);clear hJ;exact CL) ?_;simp only[PT])
 refine Et (sSl (A.bk c) lo 1) rfl rfl ?_ ?_
 ·apply Exists.intro
  apply Exists.intro
  refine⟨fun wr=>?_,fun wr nr hJ _=>?_⟩
  ·go_simp
   first|exact⟨rfl,rfl⟩|rfl
  ·refine(Ia (HH.o.nil (HE1.o.trans hJ.1)) c lo 1 hcB (by omega) hloN).mono ?_
   rintro e w' ⟨cap,rfl,hcap,hE⟩;exact⟨cap,rfl,hcap,hE⟩
 intro (cap:Nat);simp only[PT];dsimp only[sSl]
 repeat(refine dE (fun wr nr hJ=>by(have hC:=HH.o.nil (HE1.o.trans hJ.1);have qcl:=hC.lt;have qx:=HX1.o.ext hJ.1 (by simp);have qxc:=qx.cell;have qxl:=qx.lt;clear qx;have cm:=(hC.mem.bank c hcB).cell (i:=lo) (by omega);have cml:=(hC.mem.bank c hcB).lt;clear hC);clear hJ;exact CL) ?_;simp only[PT])
 refine Aa (fun w2 hJ hF=>?_)
 have HC2:=hd (HH.o.nil (HE1.o.trans hJ.1));have HE2:=hd (HE1.o.trans hJ.1);have HX2:=hd (HX1.o.ext hJ.1 (by simp));have HC3:=hd (HC2.o.setReg d hd16 (S.mem ((c:Nat):Int) (lo:Nat)));have q1:=HC2.o.reg hd16;have q2:=HC2.o.chip.frozen (10+d);have q3:=HC2.o.lt;have HE3:Hd (Aj A w (w2.setCell ⟨A.c,10+d,none⟩ (.int .i64 (S.mem ((c:Nat):Int) (lo:Nat))))):=hd ((Aj.of (A:=A) HE2.o (by simp)).trans (Aj.of (A:=A) (T:=[A.c]) (er.setCell (p:=⟨A.c,10+d,none⟩) (.inl (by simp)) _) (fun x hx=>by rw[ms hx,HH.o.kd.kc];omega)));clear hF hJ;go_wp2_with fail
 go_end0
 exact⟨rfl,HE3.o,HC3.o⟩
end
section
attribute [local irreducible] Ax
theorem Afb {w:World}{A:CA}{m:Mc}{xs:List Ins}{S:MS}(h:Ag w A m xs S)(hw:WfM m S)(xk xc xp xn xm:Int)(d a b:Nat)(hv:VI m ⟨6,xk,d,a,b,xc,xp,xn,xm⟩)(hb0:Cg m S (Ae m S ⟨6,xk,d,a,b,xc,xp,xn,xm⟩) (Ab m S ⟨6,xk,d,a,b,xc,xp,xn,xm⟩)=0) :
  Calls prog 45 #[.pointer (some A.c),.agg #[(6:Int),xk,d,a,b,xc,xp,xn,xm]] w (Fb A m xs (Az m S ⟨6,xk,d,a,b,xc,xp,xn,xm⟩) w):=by
 have HEF:Hd (Az m S ⟨6,xk,d,a,b,xc,xp,xn,xm⟩=S.put ⟨-1,S.r a+xn,1⟩ [S.r b]):=hd (by simp[Az,Ab]);rw[HEF.o];have HH:=hd h;have HV:=hd hv;have HW:=hd hw;have HB0:=hd hb0;have hm:=Bc h.kd.ok;have hd16:d<16:=by have:=hv.d;dsimp only at this;omega
 have ha16:a<16:=by have:=hv.a;dsimp only at this;omega
 have hb16:b<16:=by have:=hv.b;dsimp only at this;omega
 have hdZ:((d:Nat):Int)<16:=by omega
 have haZ:((a:Nat):Int)<16:=by omega
 have hbZ:((b:Nat):Int)<16:=by omega
 have HT:=hd (fun W (hW:Ext [] w W)=>Cu (h.nil hW) hw 6 xk d a b xc xp xn xm hv);have HX:=hd (Blk.new w 76 #[(6:Int),xk,d,a,b,xc,xp,xn,xm]);have HE0:=hd ((Ext.refl [] w).alloc (.cells #[(6:Int),xk,d,a,b,xc,xp,xn,xm] 76));have hr:=(Fm (by rw[hb0];decide)).2 ⟨-1,S.r (a:Nat)+xn,1⟩ (by simp[Ab]);have ho:=Cq hr;have hsz:Bn m (-1)=m.main:=rfl;dsimp only at ho;rw[hsz] at ho;obtain⟨lo,hlo⟩:∃n:Nat,S.r (a:Nat)+xn=n:=⟨(S.r (a:Nat)+xn).toNat,by omega⟩;rw[hlo] at ho;have hloN:lo+1<=m.main.toNat:=by omega
 have HLO:=hd hlo;have HER:Hd (Ab m S ⟨6,xk,d,a,b,xc,xp,xn,xm⟩=[⟨-1,(lo:Nat),1⟩]):=hd (by simp[Ab,hlo]);clear hr ho hsz hlo;clear h hw hv hb0;go_enter func45,ntmps45
 go_wp2_with fail
 generalize w.alloc (.cells #[(6:Int),xk,d,a,b,xc,xp,xn,xm] 76)=w0 at *;generalize hxb:w.heap.size=xbk at *;refine(HT.o _ HE0.o).mono ?_
 rintro e w1 ⟨Ra,lr,cr,Wa,lw,cw,rfl,hlr,hlw,hE1,hR,hWr,-,-⟩;have HE1:=hd (HE0.o.trans hE1);have HX1:=hd (HX.o.ext hE1 (by simp));have HLR:=hd hlr;have HLW:=hd hlw;have HR:=hd hR;have HWr:=hd hWr;clear hE1 hlr hlw hR hWr HT;have q3:=(HH.o.nil HE1.o).cell (i:=3) (by omega) (v:=m.lanes) rfl;have ql:=HH.o.lt;have ql1:=(HH.o.nil HE1.o).lt;have qxc:=HX1.o.cell;have qxl:=HX1.o.lt;go_wp2_with fail
 clear q3 ql1 qxc qxl;rw[HLO.o];have hR1:=HWr.o;rw[HER.o] at hR1;have hl1:lw=1:=by rw[<-HLW.o,HER.o];rfl
 subst hl1;obtain⟨rb,ro,rfl,hrb,hr0,hr1,hr2⟩:=hR1.at (k:=0) rfl;dsimp only at hr0 hr1 hr2;have HR0:=hd hr0;have HR1:=hd hr1;have HR2:=hd hr2;clear hr0 hr1 hr2 hR1;refine rgH 12 [(11,sW1 (S.r (b:Nat)))] ?_ ?_
 ·exact Ah.cons sW1.stays Ah.nil
 simp only[TK]
 repeat(refine dE (fun wr nr hJ=>by(have hC:=HH.o.nil (HE1.o.trans hJ.1);have qcl:=hC.lt;have qx:=HX1.o.ext hJ.1 (by simp);have qxc:=qx.cell;have qxl:=qx.lt;clear qx;have c0:=hJ.1.held HR0.o (by simp);have c1:=hJ.1.held HR1.o (by simp);have c2:=hJ.1.held HR2.o (by simp);simp only[Nat.zero_mul,Nat.add_zero] at c0 c1 c2;have cl:rb<wr.heap.size:=nl hrb hJ.1.size;have qr:=hC.reg hb16;clear hC);clear hJ;exact CL) ?_;simp only[PT])
 refine Ct (sW1 (S.r (b:Nat))) rfl rfl ?_ ?_
 ·intro wr nr hJ hf;refine⟨wr.heap.size,.cells #[.int .i64 (S.r (b:Nat))] 3,?_,Blk.new _ _ _⟩
  clear hJ hf;go_simp
  first|rfl|exact⟨rfl,rfl⟩
 intro (b11:Nat);simp only[PT];dsimp only[sW1];refine Aa (fun w2 hJ hF=>?_)
 have hB11:Blk w2 b11 3 #[.int .i64 (S.r (b:Nat))]:=hF 11
 have hsrc:∀j x,[S.r (b:Nat)][j]? = some x->w2.cell? ⟨b11,0+j,none⟩=some (.int .i64 x):=fun j x hj=>by
  match j,hj with
  | 0,hj=>cases hj;exact hB11.cell 0
 have HE2:=hd (HE1.o.trans hJ.1);have HP:=hd (Ae6 (HH.o.nil HE2.o) lo 1 b11 0 1 [S.r (b:Nat)] rfl (by omega) hloN hsrc);clear hF hJ hsrc hB11;go_wp2_with fail
 refine HP.o.mono ?_
 rintro e w3 ⟨rfl,hE3,hC3⟩;have HE3:=hd ((Aj.of (A:=A) HE2.o (by simp)).trans (Aj.of hE3 (fun x hx=>by rw[ms hx,HH.o.kd.km];omega)));have HC3:=hd hC3;clear hE3 hC3;go_wp2_with fail
 go_end0
 exact⟨rfl,HE3.o,HC3.o⟩
theorem Afc {w:World}{A:CA}{m:Mc}{xs:List Ins}{S:MS}(h:Ag w A m xs S)(hw:WfM m S)(xk xc xp xn xm:Int)(d a b:Nat)(hv:VI m ⟨8,xk,d,a,b,xc,xp,xn,xm⟩)(hb0:Cg m S (Ae m S ⟨8,xk,d,a,b,xc,xp,xn,xm⟩) (Ab m S ⟨8,xk,d,a,b,xc,xp,xn,xm⟩)=0) :
  Calls prog 45 #[.pointer (some A.c),.agg #[(8:Int),xk,d,a,b,xc,xp,xn,xm]] w (Fb A m xs (Az m S ⟨8,xk,d,a,b,xc,xp,xn,xm⟩) w):=by
 have HEF:Hd (Az m S ⟨8,xk,d,a,b,xc,xp,xn,xm⟩=S.put ⟨xc,S.r a+xn,1⟩ [S.r b]):=hd (by simp[Az,Ab]);rw[HEF.o];have HH:=hd h;have HV:=hd hv;have HW:=hd hw;have HB0:=hd hb0;have hm:=Bc h.kd.ok;have hd16:d<16:=by have:=hv.d;dsimp only at this;omega
 have ha16:a<16:=by have:=hv.a;dsimp only at this;omega
 have hb16:b<16:=by have:=hv.b;dsimp only at this;omega
 have hdZ:((d:Nat):Int)<16:=by omega
 have haZ:((a:Nat):Int)<16:=by omega
 have hbZ:((b:Nat):Int)<16:=by omega
 have HT:=hd (fun W (hW:Ext [] w W)=>Cu (h.nil hW) hw 8 xk d a b xc xp xn xm hv);have HX:=hd (Blk.new w 76 #[(8:Int),xk,d,a,b,xc,xp,xn,xm]);have HE0:=hd ((Ext.refl [] w).alloc (.cells #[(8:Int),xk,d,a,b,xc,xp,xn,xm] 76));have hr:=(Fm (by rw[hb0];decide)).2 ⟨xc,S.r (a:Nat)+xn,1⟩ (by simp[Ab]);have ho:=Cq hr;have hcb:=hv.cb (by simp);dsimp only at hcb;obtain⟨c,rfl⟩:∃n:Nat,xc=n:=⟨xc.toNat,by omega⟩;have hcB:c<m.banks.toNat:=by omega
 have hsz:Bn m ((c:Nat):Int)=m.bank:=by unfold Bn;rw[ijn (by omega)]
 dsimp only at ho;rw[hsz] at ho;obtain⟨lo,hlo⟩:∃n:Nat,S.r (a:Nat)+xn=n:=⟨(S.r (a:Nat)+xn).toNat,by omega⟩;rw[hlo] at ho;have hloN:lo+1<=m.bank.toNat:=by omega
 have HLO:=hd hlo;have HER:Hd (Ab m S ⟨8,xk,d,a,b,(c:Nat),xp,xn,xm⟩=[⟨(c:Nat),(lo:Nat),1⟩]):=hd (by simp[Ab,hlo]);clear hr ho hsz hlo;have hcI:(0:Int)<=(c:Nat):=by omega
 clear h hw hv hb0;go_enter func45,ntmps45
 go_wp2_with fail
 generalize w.alloc (.cells #[(8:Int),xk,d,a,b,c,xp,xn,xm] 76)=w0 at *;generalize hxb:w.heap.size=xbk at *;refine(HT.o _ HE0.o).mono ?_
 rintro e w1 ⟨Ra,lr,cr,Wa,lw,cw,rfl,hlr,hlw,hE1,hR,hWr,-,-⟩;have HE1:=hd (HE0.o.trans hE1);have HX1:=hd (HX.o.ext hE1 (by simp));have HLR:=hd hlr;have HLW:=hd hlw;have HR:=hd hR;have HWr:=hd hWr;clear hE1 hlr hlw hR hWr HT;have q3:=(HH.o.nil HE1.o).cell (i:=3) (by omega) (v:=m.lanes) rfl;have ql:=HH.o.lt;have ql1:=(HH.o.nil HE1.o).lt;have qxc:=HX1.o.cell;have qxl:=HX1.o.lt;go_wp2_with fail
 clear q3 ql1 qxc qxl;rw[HLO.o];have hR1:=HWr.o;rw[HER.o] at hR1;have hl1:lw=1:=by rw[<-HLW.o,HER.o];rfl
 subst hl1;obtain⟨rb,ro,rfl,hrb,hr0,hr1,hr2⟩:=hR1.at (k:=0) rfl;dsimp only at hr0 hr1 hr2;have HR0:=hd hr0;have HR1:=hd hr1;have HR2:=hd hr2;clear hr0 hr1 hr2 hR1;refine rgH 12 [(11,sW1 (S.r (b:Nat)))] ?_ ?_
 ·exact Ah.cons sW1.stays Ah.nil
 simp only[TK]
 repeat(refine dE (fun wr nr hJ=>by(have hC:=HH.o.nil (HE1.o.trans hJ.1);have qcl:=hC.lt;have qx:=HX1.o.ext hJ.1 (by simp);have qxc:=qx.cell;have qxl:=qx.lt;clear qx;have c0:=hJ.1.held HR0.o (by simp);have c1:=hJ.1.held HR1.o (by simp);have c2:=hJ.1.held HR2.o (by simp);simp only[Nat.zero_mul,Nat.add_zero] at c0 c1 c2;have cl:rb<wr.heap.size:=nl hrb hJ.1.size;have qr:=hC.reg hb16;clear hC);clear hJ;exact CL) ?_;simp only[PT])
 refine Ct (sW1 (S.r (b:Nat))) rfl rfl ?_ ?_
 ·intro wr nr hJ hf;refine⟨wr.heap.size,.cells #[.int .i64 (S.r (b:Nat))] 3,?_,Blk.new _ _ _⟩
  clear hJ hf;go_simp
  first|rfl|exact⟨rfl,rfl⟩
 intro (b11:Nat);simp only[PT];dsimp only[sW1];refine Aa (fun w2 hJ hF=>?_)
 have hB11:Blk w2 b11 3 #[.int .i64 (S.r (b:Nat))]:=hF 11
 have hsrc:∀j x,[S.r (b:Nat)][j]? = some x->w2.cell? ⟨b11,0+j,none⟩=some (.int .i64 x):=fun j x hj=>by
  match j,hj with
  | 0,hj=>cases hj;exact hB11.cell 0
 have HE2:=hd (HE1.o.trans hJ.1);have HP:=hd (Xh (HH.o.nil HE2.o) c lo 1 b11 0 1 [S.r (b:Nat)] rfl (by omega) hcB hloN hsrc);clear hF hJ hsrc hB11;go_wp2_with fail
 refine HP.o.mono ?_
 rintro e w3 ⟨rfl,hE3,hC3⟩;have HE3:=hd ((Aj.of (A:=A) HE2.o (by simp)).trans (Aj.of hE3 (fun x hx=>by have h1:=HH.o.kd.kbk c hcB;have h2:=HH.o.kd.ksb c hcB;have:=HH.o.kd.small;simp only[List.mem_cons,List.not_mem_nil,or_false] at hx;rcases hx with rfl|rfl<;>omega)));have HC3:=hd hC3;clear hE3 hC3;go_wp2_with fail
 go_end0
 exact⟨rfl,HE3.o,HC3.o⟩
theorem Ac2 {w:World}{A:CA}{m:Mc}{xs:List Ins}{S:MS}(h:Ag w A m xs S)(hw:WfM m S)(xk xc xp xn xm:Int)(d a b:Nat)(hv:VI m ⟨10,xk,d,a,b,xc,xp,xn,xm⟩)(hb0:Cg m S (Ae m S ⟨10,xk,d,a,b,xc,xp,xn,xm⟩) (Ab m S ⟨10,xk,d,a,b,xc,xp,xn,xm⟩)=0) :
  Calls prog 45 #[.pointer (some A.c),.agg #[(10:Int),xk,d,a,b,xc,xp,xn,xm]] w (Fb A m xs (Az m S ⟨10,xk,d,a,b,xc,xp,xn,xm⟩) w):=by
 have HEF:Hd (Az m S ⟨10,xk,d,a,b,xc,xp,xn,xm⟩=S.put ⟨xc,S.r a+xn,m.lanes⟩ ((List.range m.lanes.toNat).map fun k=>S.v b (k:Nat))):=hd (by simp[Az,Ab]);rw[HEF.o];have HH:=hd h;have HV:=hd hv;have HW:=hd hw;have HB0:=hd hb0;have hm:=Bc h.kd.ok;have hd16:d<16:=by have:=hv.d;dsimp only at this;omega
 have ha16:a<16:=by have:=hv.a;dsimp only at this;omega
 have hb16:b<16:=by have:=hv.b;dsimp only at this;omega
 have hdZ:((d:Nat):Int)<16:=by omega
 have haZ:((a:Nat):Int)<16:=by omega
 have hbZ:((b:Nat):Int)<16:=by omega
 have HT:=hd (fun W (hW:Ext [] w W)=>Cu (h.nil hW) hw 10 xk d a b xc xp xn xm hv);have HX:=hd (Blk.new w 76 #[(10:Int),xk,d,a,b,xc,xp,xn,xm]);have HE0:=hd ((Ext.refl [] w).alloc (.cells #[(10:Int),xk,d,a,b,xc,xp,xn,xm] 76));have hr:=(Fm (by rw[hb0];decide)).2 ⟨xc,S.r (a:Nat)+xn,m.lanes⟩ (by simp[Ab]);have ho:=Cq hr;have hcb:=hv.cb (by simp);dsimp only at hcb;obtain⟨c,rfl⟩:∃n:Nat,xc=n:=⟨xc.toNat,by omega⟩;have hcB:c<m.banks.toNat:=by omega
 have hb8:b<8:=by have:=hv.bv (by simp);dsimp only at this;omega
 obtain⟨L,hL⟩:∃n:Nat,m.lanes=n:=⟨m.lanes.toNat,by omega⟩;have HLL:=hd hL;have hL8:L<=8:=by omega
 have hL1:1<=L:=by omega
 have hLI:(L:Int)<=8:=by omega
 have hb8Z:((b:Nat):Int)<8:=by omega
 have hsz:Bn m ((c:Nat):Int)=m.bank:=by unfold Bn;rw[ijn (by omega)]
 dsimp only at ho;rw[hsz,hL] at ho;obtain⟨lo,hlo⟩:∃n:Nat,S.r (a:Nat)+xn=n:=⟨(S.r (a:Nat)+xn).toNat,by omega⟩;rw[hlo] at ho;have hloN:lo+L<=m.bank.toNat:=by omega
 have HLO:=hd hlo;have HER:Hd (Ab m S ⟨10,xk,d,a,b,(c:Nat),xp,xn,xm⟩=[⟨(c:Nat),(lo:Nat),(L:Nat)⟩]):=hd (by simp[Ab,hlo,hL]);clear hr ho hsz hlo hL;have hcI:(0:Int)<=(c:Nat):=by omega
 rw[HLO.o,HLL.o,Int.toNat_natCast];clear h hw hv hb0;go_enter func45,ntmps45
 go_wp2_with fail
 generalize w.alloc (.cells #[(10:Int),xk,d,a,b,c,xp,xn,xm] 76)=w0 at *;generalize hxb:w.heap.size=xbk at *;refine(HT.o _ HE0.o).mono ?_
 rintro e w1 ⟨Ra,lr,cr,Wa,lw,cw,rfl,hlr,hlw,hE1,hR,hWr,-,-⟩;have HE1:=hd (HE0.o.trans hE1);have HX1:=hd (HX.o.ext hE1 (by simp));have HLR:=hd hlr;have HLW:=hd hlw;have HR:=hd hR;have HWr:=hd hWr;clear hE1 hlr hlw hR hWr HT;have q3:=(HH.o.nil HE1.o).cell (i:=3) (by omega) (v:=m.lanes) rfl;have ql:=HH.o.lt;have ql1:=(HH.o.nil HE1.o).lt;have qxc:=HX1.o.cell;have qxl:=HX1.o.lt;go_wp2_with fail
 clear q3 ql1 qxc qxl;rw[HLL.o];have hR1:=HWr.o;rw[HER.o] at hR1;have hl1:lw=1:=by rw[<-HLW.o,HER.o];rfl
 subst hl1;obtain⟨rb,ro,rfl,hrb,hr0,hr1,hr2⟩:=hR1.at (k:=0) rfl;dsimp only at hr0 hr1 hr2;have HR0:=hd hr0;have HR1:=hd hr1;have HR2:=hd hr2;clear hr0 hr1 hr2 hR1;refine rgE 12 [] ?_
 simp only[TK]
 repeat(refine dE (fun wr nr hJ=>by(have hC:=HH.o.nil (HE1.o.trans hJ);have qcl:=hC.lt;have qx:=HX1.o.ext hJ (by simp);have qxc:=qx.cell;have qxl:=qx.lt;clear qx;have c0:=hJ.held HR0.o (by simp);have c1:=hJ.held HR1.o (by simp);have c2:=hJ.held HR2.o (by simp);simp only[Nat.zero_mul,Nat.add_zero] at c0 c1 c2;have cl:rb<wr.heap.size:=nl hrb hJ.size;clear hC);clear hJ;exact CL) ?_;simp only[PT])
 refine Aa (fun w2 hJ hF=>?_)
 have HE2:=hd (HE1.o.trans hJ)
 have hsrc:∀j x,((List.range L).map fun k=>S.v (b:Nat) (k:Nat))[j]? = some x->w2.cell? ⟨A.c,26+b*8+j,none⟩=some (.int .i64 x):=fun j x hj=>by
  obtain⟨k,hk,rfl⟩:=List.getElem?_map .. ▸ hj |> fun h=>(Option.map_eq_some_iff.1 h)
  have hk2:=ils hk;obtain⟨hk3,hk4⟩:=hk2;rw[List.length_range] at hk3;rw[List.getElem_range] at hk4;subst hk4;exact(HH.o.nil HE2.o).vcell hb8 (by omega)
 have HP:=hd (Xh (HH.o.nil HE2.o) c lo L A.c (26+b*8) 8 ((List.range L).map fun k=>S.v (b:Nat) (k:Nat)) (by simp) hL1 hcB hloN hsrc);clear hF hJ hsrc;go_wp2_with fail
 refine HP.o.mono ?_
 rintro e w3 ⟨rfl,hE3,hC3⟩;have HE3:=hd ((Aj.of (A:=A) HE2.o (by simp)).trans (Aj.of hE3 (fun x hx=>by have h1:=HH.o.kd.kbk c hcB;have h2:=HH.o.kd.ksb c hcB;have:=HH.o.kd.small;simp only[List.mem_cons,List.not_mem_nil,or_false] at hx;rcases hx with rfl|rfl<;>omega)));have HC3:=hd hC3;clear hE3 hC3;go_wp2_with fail
 go_end0
 exact⟨rfl,HE3.o,HC3.o⟩
end
section
attribute [local irreducible] Ax
section
variable {w:World} {A:CA} {m:Mc} {xs:List Ins} {S:MS}
theorem Ag.setV (h:Ag w A m xs S){d k:Nat}(hd:d<8)(hk:k<8)(x:Int)(g:Int->Int->Int)(hg:∀i j:Nat,i<8->j<8->g (i:Nat) (j:Nat)=if i=d/\j=k then x else S.v (i:Nat) (j:Nat)) :
  Ag (w.setCell ⟨A.c,26+d*8+k,none⟩ x) A m xs {S with v:=g }:=by
 refine h.setC (26+d*8+k) _ _ rfl rfl rfl rfl (fun j hj hne=>?_) (fun _=>?_)
 ·unfold chF;by_cases h1:j<10
  ·rw[ijp h1,ijp h1]
  rw[ijn h1,ijn h1];by_cases h2:j<26
  ·rw[ijp h2,ijp h2]
  rw[ijn h2,ijn h2];by_cases h3:j<90
  ·rw[ijp h3,ijp h3];dsimp only;rw[hg ((j-26) / 8) ((j-26) % 8) (by omega) (by omega),ijn (by omega)]
  rw[ijn h3,ijn h3]
 ·unfold chF;dsimp only;rw[ijn (by omega),ijn (by omega),ijp (by omega),show((26+d*8+k-26) / 8:Nat)=d by omega,show((26+d*8+k-26) % 8:Nat)=k by omega,hg d k hd hk,ijp ⟨rfl,rfl⟩]
theorem Ag.setA (h:Ag w A m xs S){k:Nat}(hk:k<8)(x:Int)(g:Int->Int)(hg:∀j:Nat,j<8->g (j:Nat)=if j=k then x else S.acc (j:Nat)) :
  Ag (w.setCell ⟨A.c,154+k,none⟩ x) A m xs {S with acc:=g }:=by
 refine h.setC (154+k) _ _ rfl rfl rfl rfl (fun j hj hne=>?_) (fun _=>?_)
 ·unfold chF;by_cases h1:j<10
  ·rw[ijp h1,ijp h1]
  rw[ijn h1,ijn h1];by_cases h2:j<26
  ·rw[ijp h2,ijp h2]
  rw[ijn h2,ijn h2];by_cases h3:j<90
  ·rw[ijp h3,ijp h3]
  rw[ijn h3,ijn h3];by_cases h4:j<154
  ·rw[ijp h4,ijp h4]
  rw[ijn h4,ijn h4];by_cases h5:j<162
  ·rw[ijp h5,ijp h5];dsimp only;rw[hg (j-154) (by omega),ijn (by omega)]
  rw[ijn h5,ijn h5]
 ·unfold chF;dsimp only;rw[ijn (by omega),ijn (by omega),ijn (by omega),ijn (by omega),ijp (by omega),show(154+k-154:Nat)=k by omega,hg k hk,ijp rfl]
theorem Aj.own (h:Ag w A m xs S){w':World}(hE:Aj A w w')(i:Nat)(v:Value):Aj A w (w'.setCell ⟨A.c,i,none⟩ v):=
 hE.trans (Aj.of (A:=A) (T:=[A.c]) (er.setCell (p:=⟨A.c,i,none⟩) (.inl (by simp)) _) (fun x hx=>by rw[ms hx,h.kd.kc];omega))
end
theorem Ac3 {w:World}{A:CA}{m:Mc}{xs:List Ins}{S:MS}(h:Ag w A m xs S)(hw:WfM m S)(xk xc xp xn xm:Int)(d a b:Nat)(hv:VI m ⟨12,xk,d,a,b,xc,xp,xn,xm⟩)(hb0:Cg m S (Ae m S ⟨12,xk,d,a,b,xc,xp,xn,xm⟩) (Ab m S ⟨12,xk,d,a,b,xc,xp,xn,xm⟩)=0) :
  Calls prog 45 #[.pointer (some A.c),.agg #[(12:Int),xk,d,a,b,xc,xp,xn,xm]] w (Fb A m xs (Az m S ⟨12,xk,d,a,b,xc,xp,xn,xm⟩) w):=by
 have HEF:Hd (Az m S ⟨12,xk,d,a,b,xc,xp,xn,xm⟩={S with v:=Be S.v d fun k=>if 0<=k/\k<m.lanes then S.r a else S.v d k }):=hd (by simp[Az]);rw[HEF.o];have HH:=hd h;have HV:=hd hv;have HW:=hd hw;have HB0:=hd hb0;have hm:=Bc h.kd.ok;have hd16:d<16:=by have:=hv.d;dsimp only at this;omega
 have ha16:a<16:=by have:=hv.a;dsimp only at this;omega
 have hb16:b<16:=by have:=hv.b;dsimp only at this;omega
 have hdZ:((d:Nat):Int)<16:=by omega
 have haZ:((a:Nat):Int)<16:=by omega
 have hbZ:((b:Nat):Int)<16:=by omega
 have HT:=hd (fun W (hW:Ext [] w W)=>Cu (h.nil hW) hw 12 xk d a b xc xp xn xm hv);have HX:=hd (Blk.new w 76 #[(12:Int),xk,d,a,b,xc,xp,xn,xm]);have HE0:=hd ((Ext.refl [] w).alloc (.cells #[(12:Int),xk,d,a,b,xc,xp,xn,xm] 76));have hd8:d<8:=by have:=hv.dv (by simp);dsimp only at this;omega
 have hd8Z:((d:Nat):Int)<8:=by omega
 obtain⟨L,hL⟩:∃n:Nat,m.lanes=n:=⟨m.lanes.toNat,by omega⟩;have HLL:=hd hL;have hL8:L<=8:=by omega
 rw[hL];clear hL;clear h hw hv hb0;go_enter func45,ntmps45
 go_wp2_with fail
 generalize w.alloc (.cells #[(12:Int),xk,d,a,b,xc,xp,xn,xm] 76)=w0 at *;generalize hxb:w.heap.size=xbk at *;refine(HT.o _ HE0.o).mono ?_
 rintro e w1 ⟨Ra,lr,cr,Wa,lw,cw,rfl,hlr,hlw,hE1,hR,hWr,-,-⟩;have HE1:=hd (HE0.o.trans hE1);have HX1:=hd (HX.o.ext hE1 (by simp));have HLR:=hd hlr;have HLW:=hd hlw;have HR:=hd hR;have HWr:=hd hWr;clear hE1 hlr hlw hR hWr HT;have q3:=(HH.o.nil HE1.o).cell (i:=3) (by omega) (v:=m.lanes) rfl;have ql:=HH.o.lt;have ql1:=(HH.o.nil HE1.o).lt;have qxc:=HX1.o.cell;have qxl:=HX1.o.lt;go_wp2_with fail
 clear q3 ql1 qxc qxl;rw[HLL.o];have hcx:A.c<xbk:=by rw[<-hxb];exact ql
 go_loopw [183] (fun i wr=>∃k:Nat,i=.int .i64 k/\k<=L/\Hd (Aj A w wr)/\Hd (Ag wr A m xs {S with v:=Be S.v (d:Nat) fun j=>if 0<=j/\j<(k:Nat) then S.r (a:Nat) else S.v (d:Nat) j })/\Hd (Blk wr xbk 76 #[(12:Int),xk,d,a,b,xc,xp,xn,xm])) (fun i _=>(L-intOf i).toNat)
 case atStart=>exact⟨0,rfl,by omega,hd (Aj.of (A:=A) HE1.o (by simp)),hd (by
  have h1:=HH.o.nil HE1.o
  have h2:{S with v:=Be S.v (d:Nat) fun j=>if 0<=j/\j<((0:Nat):Int) then S.r (a:Nat) else S.v (d:Nat) j }=S:=by
   have h3:(Be S.v (d:Nat) fun j=>if 0<=j/\j<((0:Nat):Int) then S.r (a:Nat) else S.v (d:Nat) j)=S.v:=by
    funext i j
    unfold Be;by_cases hi:i=(d:Nat)
    ·rw[ijp hi,ijn (by omega),hi]
    ·rw[ijn hi]
   rw[h3]
  rw[h2];exact h1),HX1⟩
 case round=>
  obtain⟨k,rfl,hk,HEk,HCk,HXk⟩:=hrel;rename World=>wk
  by_cases hlt:k<L
  ·have hk8:k<8:=by omega
   have hkZ:((k:Nat):Int)<8:=by omega
   go_wp2_with fail
   refine rgE 14 [] ?_
   simp only[TK]
   repeat(refine dE (fun wr nr hJ=>by(have hC:=HCk.o.nil hJ;have qcl:=hC.lt;have qx:=HXk.o.ext hJ (by simp);have qxc:=qx.cell;have qxl:=qx.lt;clear qx;have qra:=hC.reg ha16;clear hC);clear hJ;exact CL) ?_;simp only[PT])
   refine Aa (fun w2 hJ hF=>?_)
   have HC2:=hd (HCk.o.nil hJ);have HX2:=hd (HXk.o.ext hJ (by simp));have HE2:=hd (HEk.o.trans (Aj.of (A:=A) hJ (by simp)));have q1:=HC2.o.vcell hd8 hk8;have q2:=HC2.o.chip.frozen (26+d*8+k);have q3:=HC2.o.lt
   have HC3:Hd (Ag (w2.setCell ⟨A.c,26+d*8+k,none⟩ (.int .i64 (S.r (a:Nat)))) A m xs {S with v:=Be S.v (d:Nat) fun j=>if 0<=j/\j<((k+1:Nat):Int) then S.r (a:Nat) else S.v (d:Nat) j }):=hd (HC2.o.setV hd8 hk8 (S.r (a:Nat)) _ (fun i j hi hj=>by
    dsimp only;unfold Be;by_cases hid:i=d
    ·subst hid;rw[ijp rfl,ijp rfl];by_cases hjk:j=k
     ·subst hjk;rw[ijp ⟨by omega,by omega⟩,ijp ⟨rfl,rfl⟩]
     ·rw[ijn (c:=i=i/\j=k) (by omega)];by_cases hlt:j<k
      ·rw[ijp ⟨by omega,by omega⟩,ijp ⟨by omega,by omega⟩]
      ·rw[ijn (by omega),ijn (by omega)]
    ·rw[ijn (by omega),ijn (c:=i=d/\j=k) (by omega),ijn (by omega)]))
   have HE3:=hd (Aj.own HH.o HE2.o (26+d*8+k) (.int .i64 (S.r (a:Nat))));have HX3:=hd (HX2.o.far (p:=⟨A.c,26+d*8+k,none⟩) (show xbk≠A.c by omega) (.int .i64 (S.r (a:Nat))));clear hF hJ;go_wp2_with fail
   go_roundw
   case rel=>exact⟨k+1,by go_num,by omega,HE3,HC3,HX3⟩
   case measure=>simp[intOf];omega
  ·have hkL:k=L:=by omega
   subst hkL;go_wp2_with fail
   go_end0
   exact⟨rfl,HEk.o,HCk.o⟩
end
section
attribute [local irreducible] Ax
theorem Xi {w:World}{A:CA}{m:Mc}{xs:List Ins}{S:MS}(h:Ag w A m xs S)(xo xk xd xa xb xc xp xn xm:Int)(hx:xo≠14/\xo≠15/\xo≠16/\xo≠17)(Ra:Value) :
  Calls prog 83 #[.pointer (some A.c),.agg #[xo,xk,xd,xa,xb,xc,xp,xn,xm],Ra] w (Fb A m xs S w):=by
 have HH:=hd h;obtain⟨h1,h2,h3,h4⟩:=hx;have e1:(xo==14)=false:=by simpa using h1
 have e2:(xo==15)=false:=by simpa using h2
 have e3:(xo==16)=false:=by simpa using h3
 have e4:(xo==17)=false:=by simpa using h4
 have HE0:=hd ((Ext.refl [] w).alloc (.cells #[xo,xk,xd,xa,xb,xc,xp,xn,xm] 76));have HX:=hd (Blk.new w 76 #[xo,xk,xd,xa,xb,xc,xp,xn,xm]);have q3:=(HH.o.nil HE0.o).cell (i:=3) (by omega) (v:=m.lanes) rfl;have ql:=HH.o.lt;clear h h1 h2 h3 h4;go_enter func83,ntmps83
 go_wp2_with fail
 go_end0
 exact⟨rfl,Aj.of (A:=A) HE0.o (by simp),HH.o.nil HE0.o⟩
theorem Ac4 {w:World}{A:CA}{m:Mc}{xs:List Ins}{S:MS}(h:Ag w A m xs S)(xk xd xa xb xc xp xn xm:Int)(Ra:Value) :
  Calls prog 83 #[.pointer (some A.c),.agg #[(16:Int),xk,xd,xa,xb,xc,xp,xn,xm],Ra] w (Fb A m xs {S with acc:=fun _=>0 } w):=by
 have HH:=hd h;have hE0:=(Ext.refl [] w).alloc (.cells #[(16:Int),xk,xd,xa,xb,xc,xp,xn,xm] 76);have HE:=hd hE0;have HX:=hd (Blk.new w 76 #[(16:Int),xk,xd,xa,xb,xc,xp,xn,xm]);have HC0:=hd (HH.o.nil hE0);have HE0:=hd (Aj.of (A:=A) hE0 (by simp));have q3:=HC0.o.cell (i:=3) (by omega) (v:=m.lanes) rfl;have ql:=HH.o.lt;have ql1:=HC0.o.lt;clear h hE0;go_enter func83,ntmps83
 go_upto_region 22 with fail
 clear q3 ql1;generalize w.alloc (.cells #[(16:Int),xk,xd,xa,xb,xc,xp,xn,xm] 76)=w1 at *;have ql1:=HC0.o.lt;have qf:=HC0.o.chip.frozen;have a0:=HC0.o.acell (k:=0) (by omega);have a1:=HC0.o.acell (k:=1) (by omega);have a2:=HC0.o.acell (k:=2) (by omega);have a3:=HC0.o.acell (k:=3) (by omega);have a4:=HC0.o.acell (k:=4) (by omega);have a5:=HC0.o.acell (k:=5) (by omega);have a6:=HC0.o.acell (k:=6) (by omega);have a7:=HC0.o.acell (k:=7) (by omega);simp only[Nat.reduceAdd] at a0 a1 a2 a3 a4 a5 a6 a7
 have HC1:Hd (Ag (w1.setCell ⟨A.c,154,none⟩ (.int .i64 0)) A m xs {S with acc:=fun j=>if j<1 then 0 else S.acc j }):=hd (HC0.o.setA (k:=0) (by omega) 0 _ (fun j hj=>by
  try dsimp only
  repeat' split
  all_goals omega))
 have HE1:=hd (Aj.own HH.o HE0.o 154 (.int .i64 0))
 have HC2:Hd (Ag ((w1.setCell ⟨A.c,154,none⟩ (.int .i64 0)).setCell ⟨A.c,155,none⟩ (.int .i64 0)) A m xs {S with acc:=fun j=>if j<2 then 0 else S.acc j }):=hd (HC1.o.setA (k:=1) (by omega) 0 _ (fun j hj=>by
  try dsimp only
  repeat' split
  all_goals omega))
 have HE2:=hd (Aj.own HH.o HE1.o 155 (.int .i64 0))
 have HC3:Hd (Ag (((w1.setCell ⟨A.c,154,none⟩ (.int .i64 0)).setCell ⟨A.c,155,none⟩ (.int .i64 0)).setCell ⟨A.c,156,none⟩ (.int .i64 0)) A m xs {S with acc:=fun j=>if j<3 then 0 else S.acc j }):=hd (HC2.o.setA (k:=2) (by omega) 0 _ (fun j hj=>by
  try dsimp only
  repeat' split
  all_goals omega))
 have HE3:=hd (Aj.own HH.o HE2.o 156 (.int .i64 0))
 have HC4:Hd (Ag ((((w1.setCell ⟨A.c,154,none⟩ (.int .i64 0)).setCell ⟨A.c,155,none⟩ (.int .i64 0)).setCell ⟨A.c,156,none⟩ (.int .i64 0)).setCell ⟨A.c,157,none⟩ (.int .i64 0)) A m xs {S with acc:=fun j=>if j<4 then 0 else S.acc j }):=hd (HC3.o.setA (k:=3) (by omega) 0 _ (fun j hj=>by
  try dsimp only
  repeat' split
  all_goals omega))
 have HE4:=hd (Aj.own HH.o HE3.o 157 (.int .i64 0))
 have HC5:Hd (Ag (((((w1.setCell ⟨A.c,154,none⟩ (.int .i64 0)).setCell ⟨A.c,155,none⟩ (.int .i64 0)).setCell ⟨A.c,156,none⟩ (.int .i64 0)).setCell ⟨A.c,157,none⟩ (.int .i64 0)).setCell ⟨A.c,158,none⟩ (.int .i64 0)) A m xs {S with acc:=fun j=>if j<5 then 0 else S.acc j }):=hd (HC4.o.setA (k:=4) (by omega) 0 _ (fun j hj=>by
  try dsimp only
  repeat' split
  all_goals omega))
 have HE5:=hd (Aj.own HH.o HE4.o 158 (.int .i64 0))
 have HC6:Hd (Ag ((((((w1.setCell ⟨A.c,154,none⟩ (.int .i64 0)).setCell ⟨A.c,155,none⟩ (.int .i64 0)).setCell ⟨A.c,156,none⟩ (.int .i64 0)).setCell ⟨A.c,157,none⟩ (.int .i64 0)).setCell ⟨A.c,158,none⟩ (.int .i64 0)).setCell ⟨A.c,159,none⟩ (.int .i64 0)) A m xs {S with acc:=fun j=>if j<6 then 0 else S.acc j }):=hd (HC5.o.setA (k:=5) (by omega) 0 _ (fun j hj=>by
  try dsimp only
  repeat' split
  all_goals omega))
 have HE6:=hd (Aj.own HH.o HE5.o 159 (.int .i64 0))
 have HC7:Hd (Ag (((((((w1.setCell ⟨A.c,154,none⟩ (.int .i64 0)).setCell ⟨A.c,155,none⟩ (.int .i64 0)).setCell ⟨A.c,156,none⟩ (.int .i64 0)).setCell ⟨A.c,157,none⟩ (.int .i64 0)).setCell ⟨A.c,158,none⟩ (.int .i64 0)).setCell ⟨A.c,159,none⟩ (.int .i64 0)).setCell ⟨A.c,160,none⟩ (.int .i64 0)) A m xs {S with acc:=fun j=>if j<7 then 0 else S.acc j }):=hd (HC6.o.setA (k:=6) (by omega) 0 _ (fun j hj=>by
  try dsimp only
  repeat' split
  all_goals omega))
 have HE7:=hd (Aj.own HH.o HE6.o 160 (.int .i64 0))
 have HC8:Hd (Ag ((((((((w1.setCell ⟨A.c,154,none⟩ (.int .i64 0)).setCell ⟨A.c,155,none⟩ (.int .i64 0)).setCell ⟨A.c,156,none⟩ (.int .i64 0)).setCell ⟨A.c,157,none⟩ (.int .i64 0)).setCell ⟨A.c,158,none⟩ (.int .i64 0)).setCell ⟨A.c,159,none⟩ (.int .i64 0)).setCell ⟨A.c,160,none⟩ (.int .i64 0)).setCell ⟨A.c,161,none⟩ (.int .i64 0)) A m xs {S with acc:=fun _=>0 }):=hd (HC7.o.setA (k:=7) (by omega) 0 _ (fun j hj=>by
  try dsimp only
  repeat' split
  all_goals omega))
 have HE8:=hd (Aj.own HH.o HE7.o 161 (.int .i64 0));go_wp2_with fail
 go_end0
 exact⟨rfl,HE8.o,HC8.o⟩
theorem Ac5 {w:World}{A:CA}{m:Mc}{xs:List Ins}{S:MS}(h:Ag w A m xs S)(d:Nat)(hd8:d<8)(xk xa xb xc xp xn xm:Int)(Ra:Value) :
  Calls prog 83 #[.pointer (some A.c),.agg #[(17:Int),xk,d,xa,xb,xc,xp,xn,xm],Ra] w (Fb A m xs {S with v:=Be S.v (d:Nat) S.acc } w):=by
 have HH:=hd h;have hE0:=(Ext.refl [] w).alloc (.cells #[(17:Int),xk,d,xa,xb,xc,xp,xn,xm] 76);have HE:=hd hE0;have HX:=hd (Blk.new w 76 #[(17:Int),xk,d,xa,xb,xc,xp,xn,xm]);have HC0:=hd (HH.o.nil hE0);have q3:=HC0.o.cell (i:=3) (by omega) (v:=m.lanes) rfl;have ql:=HH.o.lt;have ql1:=HC0.o.lt;have hdZ:((d:Nat):Int)<8:=by omega
 clear h hE0;go_enter func83,ntmps83
 go_wp2_with fail
 clear q3 ql1;generalize w.alloc (.cells #[(17:Int),xk,d,xa,xb,xc,xp,xn,xm] 76)=w1 at *;refine rgE 9 [] ?_
 simp only[TK]
 repeat(refine dE (fun wr nr hJ=>by(have hC:=HC0.o.nil hJ;have qcl:=hC.lt;have qx:=HX.o.ext hJ (by simp);have qxc:=qx.cell;have qxl:=qx.lt;have a0:=hC.acell (k:=0) (by omega);have a1:=hC.acell (k:=1) (by omega);have a2:=hC.acell (k:=2) (by omega);have a3:=hC.acell (k:=3) (by omega);have a4:=hC.acell (k:=4) (by omega);have a5:=hC.acell (k:=5) (by omega);have a6:=hC.acell (k:=6) (by omega);have a7:=hC.acell (k:=7) (by omega);simp only[Nat.reduceAdd] at a0 a1 a2 a3 a4 a5 a6 a7;clear qx hC);clear hJ;exact CL) ?_;simp only[PT])
 refine Aa (fun w2 hJ hF=>?_)
 have HD0:=hd (HC0.o.nil hJ);have HF0:=hd (Aj.of (A:=A) (HE.o.trans hJ) (by simp));have v0:=HD0.o.vcell hd8 (k:=0) (by omega);have v1:=HD0.o.vcell hd8 (k:=1) (by omega);have v2:=HD0.o.vcell hd8 (k:=2) (by omega);have v3:=HD0.o.vcell hd8 (k:=3) (by omega);have v4:=HD0.o.vcell hd8 (k:=4) (by omega);have v5:=HD0.o.vcell hd8 (k:=5) (by omega);have v6:=HD0.o.vcell hd8 (k:=6) (by omega);have v7:=HD0.o.vcell hd8 (k:=7) (by omega);simp only[Nat.add_zero] at v0;have qf:=HD0.o.chip.frozen;have ql2:=HD0.o.lt;clear hF hJ
 have HD1:Hd (Ag (w2.setCell ⟨A.c,26+d*8,none⟩ (.int .i64 (S.acc 0))) A m xs {S with v:=fun i j=>if i=(d:Nat)/\j<1 then S.acc j else S.v i j }):=hd (HD0.o.setV (d:=d) (k:=0) hd8 (by omega) (S.acc 0) _ (fun i j hi hj=>by
  try dsimp only
  try unfold Be
  by_cases hid:i=d
  ·subst hid;by_cases hjk:j=0
   ·subst hjk;simp
   ·by_cases hj2:j<0
    ·omega
    ·have:¬((j:Nat):Int)<0:=by omega
     have h3:¬((j:Nat):Int)<1:=by omega
     simp[hjk,this,h3]
  ·have hiZ:((i:Nat):Int)≠d:=by omega
   simp[hid,hiZ]))
 have HF1:=hd (Aj.own HH.o HF0.o (26+d*8+0) (.int .i64 (S.acc 0)))
 have HD2:Hd (Ag ((w2.setCell ⟨A.c,26+d*8,none⟩ (.int .i64 (S.acc 0))).setCell ⟨A.c,26+d*8+1,none⟩ (.int .i64 (S.acc 1))) A m xs {S with v:=fun i j=>if i=(d:Nat)/\j<2 then S.acc j else S.v i j }):=hd (HD1.o.setV (d:=d) (k:=1) hd8 (by omega) (S.acc 1) _ (fun i j hi hj=>by
  try dsimp only
  try unfold Be
  by_cases hid:i=d
  ·subst hid;by_cases hjk:j=1
   ·subst hjk;simp
   ·by_cases hj2:j<1
    ·repeat rw[ijp (by omega)];first|rfl|(rw[ijn (by omega),ijp (by omega)])
    ·have:¬((j:Nat):Int)<1:=by omega
     have h3:¬((j:Nat):Int)<2:=by omega
     simp[hjk,this,h3]
  ·have hiZ:((i:Nat):Int)≠d:=by omega
   simp[hid,hiZ]))
 have HF2:=hd (Aj.own HH.o HF1.o (26+d*8+1) (.int .i64 (S.acc 1)))
 have HD3:Hd (Ag (((w2.setCell ⟨A.c,26+d*8,none⟩ (.int .i64 (S.acc 0))).setCell ⟨A.c,26+d*8+1,none⟩ (.int .i64 (S.acc 1))).setCell ⟨A.c,26+d*8+2,none⟩ (.int .i64 (S.acc 2))) A m xs {S with v:=fun i j=>if i=(d:Nat)/\j<3 then S.acc j else S.v i j }):=hd (HD2.o.setV (d:=d) (k:=2) hd8 (by omega) (S.acc 2) _ (fun i j hi hj=>by
  try dsimp only
  try unfold Be
  by_cases hid:i=d
  ·subst hid;by_cases hjk:j=2
   ·subst hjk;simp
   ·by_cases hj2:j<2
    ·repeat rw[ijp (by omega)];first|rfl|(rw[ijn (by omega),ijp (by omega)])
    ·have:¬((j:Nat):Int)<2:=by omega
     have h3:¬((j:Nat):Int)<3:=by omega
     simp[hjk,this,h3]
  ·have hiZ:((i:Nat):Int)≠d:=by omega
   simp[hid,hiZ]))
 have HF3:=hd (Aj.own HH.o HF2.o (26+d*8+2) (.int .i64 (S.acc 2)))
 have HD4:Hd (Ag ((((w2.setCell ⟨A.c,26+d*8,none⟩ (.int .i64 (S.acc 0))).setCell ⟨A.c,26+d*8+1,none⟩ (.int .i64 (S.acc 1))).setCell ⟨A.c,26+d*8+2,none⟩ (.int .i64 (S.acc 2))).setCell ⟨A.c,26+d*8+3,none⟩ (.int .i64 (S.acc 3))) A m xs {S with v:=fun i j=>if i=(d:Nat)/\j<4 then S.acc j else S.v i j }):=hd (HD3.o.setV (d:=d) (k:=3) hd8 (by omega) (S.acc 3) _ (fun i j hi hj=>by
  try dsimp only
  try unfold Be
  by_cases hid:i=d
  ·subst hid;by_cases hjk:j=3
   ·subst hjk;simp
   ·by_cases hj2:j<3
    ·repeat rw[ijp (by omega)];first|rfl|(rw[ijn (by omega),ijp (by omega)])
    ·have:¬((j:Nat):Int)<3:=by omega
     have h3:¬((j:Nat):Int)<4:=by omega
     simp[hjk,this,h3]
  ·have hiZ:((i:Nat):Int)≠d:=by omega
   simp[hid,hiZ]))
 have HF4:=hd (Aj.own HH.o HF3.o (26+d*8+3) (.int .i64 (S.acc 3)))
 have HD5:Hd (Ag (((((w2.setCell ⟨A.c,26+d*8,none⟩ (.int .i64 (S.acc 0))).setCell ⟨A.c,26+d*8+1,none⟩ (.int .i64 (S.acc 1))).setCell ⟨A.c,26+d*8+2,none⟩ (.int .i64 (S.acc 2))).setCell ⟨A.c,26+d*8+3,none⟩ (.int .i64 (S.acc 3))).setCell ⟨A.c,26+d*8+4,none⟩ (.int .i64 (S.acc 4))) A m xs {S with v:=fun i j=>if i=(d:Nat)/\j<5 then S.acc j else S.v i j }):=hd (HD4.o.setV (d:=d) (k:=4) hd8 (by omega) (S.acc 4) _ (fun i j hi hj=>by
  try dsimp only
  try unfold Be
  by_cases hid:i=d
  ·subst hid;by_cases hjk:j=4
   ·subst hjk;simp
   ·by_cases hj2:j<4
    ·repeat rw[ijp (by omega)];first|rfl|(rw[ijn (by omega),ijp (by omega)])
    ·have:¬((j:Nat):Int)<4:=by omega
     have h3:¬((j:Nat):Int)<5:=by omega
     simp[hjk,this,h3]
  ·have hiZ:((i:Nat):Int)≠d:=by omega
   simp[hid,hiZ]))
 have HF5:=hd (Aj.own HH.o HF4.o (26+d*8+4) (.int .i64 (S.acc 4)))
 have HD6:Hd (Ag ((((((w2.setCell ⟨A.c,26+d*8,none⟩ (.int .i64 (S.acc 0))).setCell ⟨A.c,26+d*8+1,none⟩ (.int .i64 (S.acc 1))).setCell ⟨A.c,26+d*8+2,none⟩ (.int .i64 (S.acc 2))).setCell ⟨A.c,26+d*8+3,none⟩ (.int .i64 (S.acc 3))).setCell ⟨A.c,26+d*8+4,none⟩ (.int .i64 (S.acc 4))).setCell ⟨A.c,26+d*8+5,none⟩ (.int .i64 (S.acc 5))) A m xs {S with v:=fun i j=>if i=(d:Nat)/\j<6 then S.acc j else S.v i j }):=hd (HD5.o.setV (d:=d) (k:=5) hd8 (by omega) (S.acc 5) _ (fun i j hi hj=>by
  try dsimp only
  try unfold Be
  by_cases hid:i=d
  ·subst hid;by_cases hjk:j=5
   ·subst hjk;simp
   ·by_cases hj2:j<5
    ·repeat rw[ijp (by omega)];first|rfl|(rw[ijn (by omega),ijp (by omega)])
    ·have:¬((j:Nat):Int)<5:=by omega
     have h3:¬((j:Nat):Int)<6:=by omega
     simp[hjk,this,h3]
  ·have hiZ:((i:Nat):Int)≠d:=by omega
   simp[hid,hiZ]))
 have HF6:=hd (Aj.own HH.o HF5.o (26+d*8+5) (.int .i64 (S.acc 5)))
 have HD7:Hd (Ag (((((((w2.setCell ⟨A.c,26+d*8,none⟩ (.int .i64 (S.acc 0))).setCell ⟨A.c,26+d*8+1,none⟩ (.int .i64 (S.acc 1))).setCell ⟨A.c,26+d*8+2,none⟩ (.int .i64 (S.acc 2))).setCell ⟨A.c,26+d*8+3,none⟩ (.int .i64 (S.acc 3))).setCell ⟨A.c,26+d*8+4,none⟩ (.int .i64 (S.acc 4))).setCell ⟨A.c,26+d*8+5,none⟩ (.int .i64 (S.acc 5))).setCell ⟨A.c,26+d*8+6,none⟩ (.int .i64 (S.acc 6))) A m xs {S with v:=fun i j=>if i=(d:Nat)/\j<7 then S.acc j else S.v i j }):=hd (HD6.o.setV (d:=d) (k:=6) hd8 (by omega) (S.acc 6) _ (fun i j hi hj=>by
  try dsimp only
  try unfold Be
  by_cases hid:i=d
  ·subst hid;by_cases hjk:j=6
   ·subst hjk;simp
   ·by_cases hj2:j<6
    ·repeat rw[ijp (by omega)];first|rfl|(rw[ijn (by omega),ijp (by omega)])
    ·have:¬((j:Nat):Int)<6:=by omega
     have h3:¬((j:Nat):Int)<7:=by omega
     simp[hjk,this,h3]
  ·have hiZ:((i:Nat):Int)≠d:=by omega
   simp[hid,hiZ]))
 have HF7:=hd (Aj.own HH.o HF6.o (26+d*8+6) (.int .i64 (S.acc 6)))
 have HD8:Hd (Ag ((((((((w2.setCell ⟨A.c,26+d*8,none⟩ (.int .i64 (S.acc 0))).setCell ⟨A.c,26+d*8+1,none⟩ (.int .i64 (S.acc 1))).setCell ⟨A.c,26+d*8+2,none⟩ (.int .i64 (S.acc 2))).setCell ⟨A.c,26+d*8+3,none⟩ (.int .i64 (S.acc 3))).setCell ⟨A.c,26+d*8+4,none⟩ (.int .i64 (S.acc 4))).setCell ⟨A.c,26+d*8+5,none⟩ (.int .i64 (S.acc 5))).setCell ⟨A.c,26+d*8+6,none⟩ (.int .i64 (S.acc 6))).setCell ⟨A.c,26+d*8+7,none⟩ (.int .i64 (S.acc 7))) A m xs {S with v:=Be S.v (d:Nat) S.acc }):=hd (HD7.o.setV (d:=d) (k:=7) hd8 (by omega) (S.acc 7) _ (fun i j hi hj=>by
  try dsimp only
  try unfold Be
  by_cases hid:i=d
  ·subst hid;by_cases hjk:j=7
   ·subst hjk;simp
   ·by_cases hj2:j<7
    ·repeat rw[ijp (by omega)];first|rfl|(rw[ijn (by omega),ijp (by omega)])
    ·have:¬((j:Nat):Int)<7:=by omega
     have h3:¬((j:Nat):Int)<8:=by omega
     omega
  ·have hiZ:((i:Nat):Int)≠d:=by omega
   simp[hid,hiZ]))
 have HF8:=hd (Aj.own HH.o HF7.o (26+d*8+7) (.int .i64 (S.acc 7)));go_wp2_with fail
 go_end0
 exact⟨rfl,HF8.o,HD8.o⟩
end
section
attribute [local irreducible] Ax
theorem Jb {w:World}{A:CA}{m:Mc}{xs:List Ins}{S S':MS}(h:Ag w A m xs S)(hw:WfM m S)(xo xk xd xa xb xc xp xn xm:Int)(hv:VI m ⟨xo,xk,xd,xa,xb,xc,xp,xn,xm⟩)(hx:xo≠1/\xo≠2/\xo≠5/\xo≠6/\xo≠7/\xo≠8/\xo≠9/\xo≠10/\xo≠11/\xo≠12/\xo≠13/\xo≠18)
  (hM:∀(W:World) (Ra:Option Addr) (lr cr:Nat),Ext [] w W->RdA W Ra (Ae m S ⟨xo,xk,xd,xa,xb,xc,xp,xn,xm⟩)->(Ae m S ⟨xo,xk,xd,xa,xb,xc,xp,xn,xm⟩).length=lr->(∀y,Ra=some y->y.block≠A.c)->Calls prog 83 #[.pointer (some A.c),.agg #[xo,xk,xd,xa,xb,xc,xp,xn,xm],.slice Ra lr cr] W (Fb A m xs S' W)) :
  Calls prog 45 #[.pointer (some A.c),.agg #[xo,xk,xd,xa,xb,xc,xp,xn,xm]] w (Fb A m xs S' w):=by
 have HH:=hd h;have e1:(xo==1)=false:=by have:=hx;simp;omega
 have e2:(xo==2)=false:=by have:=hx;simp;omega
 have e5:(xo==5)=false:=by have:=hx;simp;omega
 have e6:(xo==6)=false:=by have:=hx;simp;omega
 have e7:(xo==7)=false:=by have:=hx;simp;omega
 have e8:(xo==8)=false:=by have:=hx;simp;omega
 have e9:(xo==9)=false:=by have:=hx;simp;omega
 have e10:(xo==10)=false:=by have:=hx;simp;omega
 have e11:(xo==11)=false:=by have:=hx;simp;omega
 have e12:(xo==12)=false:=by have:=hx;simp;omega
 have e13:(xo==13)=false:=by have:=hx;simp;omega
 have e18:(xo==18)=false:=by have:=hx;simp;omega
 have HT:=hd (fun W (hW:Ext [] w W)=>Cu (h.nil hW) hw xo xk xd xa xb xc xp xn xm hv);have HM:=hd hM;have HX:=hd (Blk.new w 76 #[xo,xk,xd,xa,xb,xc,xp,xn,xm]);have HE0:=hd ((Ext.refl [] w).alloc (.cells #[xo,xk,xd,xa,xb,xc,xp,xn,xm] 76));clear h hw hv hx hM;go_enter func45,ntmps45
 go_wp2_with fail
 generalize w.alloc (.cells #[xo,xk,xd,xa,xb,xc,xp,xn,xm] 76)=w0 at *;generalize hxb:w.heap.size=xbk at *;refine(HT.o _ HE0.o).mono ?_
 rintro e w1 ⟨Ra,lr,cr,Wa,lw,cw,rfl,hlr,hlw,hE1,hR,hWr,hfr,-⟩;have HE1:=hd (HE0.o.trans hE1);have HX1:=hd (HX.o.ext hE1 (by simp));have HLR:=hd hlr;have HR:=hd hR;have HFR:Hd (∀y,Ra=some y->y.block≠A.c):=hd (fun y hy=>by have h1:=hfr y hy;have h2:=HH.o.lt;have h3:=HE0.o.size;omega);clear hE1 hlr hlw hR hWr HT hfr;have q3:=(HH.o.nil HE1.o).cell (i:=3) (by omega) (v:=m.lanes) rfl;have ql:=HH.o.lt;have ql1:=(HH.o.nil HE1.o).lt;have qxc:=HX1.o.cell;have qxl:=HX1.o.lt;go_wp2_with fail
 refine(HM.o _ _ _ _ HE1.o HR.o HLR.o HFR.o).mono ?_
 rintro e w2 ⟨rfl,hE2,hC2⟩;have HE2:=hd ((Aj.of (A:=A) HE1.o (by simp)).trans hE2);have HC2:=hd hC2;clear hE2 hC2 q3 ql1 qxc qxl;go_wp2_with fail
 go_end0
 exact⟨rfl,HE2.o,HC2.o⟩
end
section
attribute [local irreducible] Ax
section
variable {w:World} {A:CA} {m:Mc} {xs:List Ins} {S:MS}
theorem Ag.setWt (h:Ag w A m xs S){d k:Nat}(hd:d<8)(hk:k<8)(x:Int)(g:Int->Int->Int)(hg:∀i j:Nat,i<8->j<8->g (i:Nat) (j:Nat)=if i=d/\j=k then x else S.wt (i:Nat) (j:Nat)) :
  Ag (w.setCell ⟨A.c,90+d*8+k,none⟩ x) A m xs {S with wt:=g }:=by
 refine h.setC (90+d*8+k) _ _ rfl rfl rfl rfl (fun j hj hne=>?_) (fun _=>?_)
 ·unfold chF;by_cases h1:j<10
  ·rw[ijp h1,ijp h1]
  rw[ijn h1,ijn h1];by_cases h2:j<26
  ·rw[ijp h2,ijp h2]
  rw[ijn h2,ijn h2];by_cases h3:j<90
  ·rw[ijp h3,ijp h3]
  rw[ijn h3,ijn h3];by_cases h4:j<154
  ·rw[ijp h4,ijp h4];dsimp only;rw[hg ((j-90) / 8) ((j-90) % 8) (by omega) (by omega),ijn (by omega)]
  rw[ijn h4,ijn h4]
 ·unfold chF;dsimp only;rw[ijn (by omega),ijn (by omega),ijn (by omega),ijp (by omega),show((90+d*8+k-90) / 8:Nat)=d by omega,show((90+d*8+k-90) % 8:Nat)=k by omega,hg d k hd hk,ijp ⟨rfl,rfl⟩]
theorem Ag.congV (h:Ag w A m xs S)(g:Int->Int->Int)(hg:∀i j:Nat,i<8->j<8->g (i:Nat) (j:Nat)=S.v (i:Nat) (j:Nat)):Ag w A m xs {S with v:=g }:=by
 refine⟨?_,h.stat,h.mem,h.que,h.loops,h.kd⟩
 have e:Ce m A S xs.length=Ce m A {S with v:=g } xs.length:=by
  apply Array.ext_getElem?
  intro i;by_cases hi:i<170
  ·rw[Dp _ _ _ _ hi,Dp _ _ _ _ hi];congr 1
   unfold chF;by_cases h1:i<10
   ·rw[ijp h1,ijp h1]
   rw[ijn h1,ijn h1];by_cases h2:i<26
   ·rw[ijp h2,ijp h2]
   rw[ijn h2,ijn h2];by_cases h3:i<90
   ·rw[ijp h3,ijp h3];dsimp only;rw[hg ((i-26) / 8) ((i-26) % 8) (by omega) (by omega)]
   rw[ijn h3,ijn h3]
  ·have h1:(Ce m A S xs.length)[i]? = none:=Array.getElem?_eq_none (by simp[Ce];omega);have h2:(Ce m A {S with v:=g } xs.length)[i]? = none:=Array.getElem?_eq_none (by simp[Ce];omega);rw[h1,h2]
 rw[<-e];exact h.chip
theorem Ag.setVs {d:Nat}(hd:d<8):∀(ws:List Int) (k:Nat) {w:World} {S:MS} (g:Int->Int->Int),k+ws.length<=8->Ag w A m xs S->
  (∀i j:Nat,i<8->j<8->g (i:Nat) (j:Nat)=if i=d/\k<=j/\j<k+ws.length then ws.getD (j-k) 0 else S.v (i:Nat) (j:Nat))->
  Ag (w.setCells A.c (26+d*8+k) (ws.map (Value.int .i64))) A m xs {S with v:=g }
 | [],k,w,S,g,_,h,hg=>h.congV g (fun i j hi hj=>by rw[hg i j hi hj,if_neg];simp only[List.length_nil];omega)
 | x :: ws,k,w,S,g,hk,h,hg=>by
  have hk':k+1+ws.length<=8:=by simp only[List.length_cons] at hk;omega
  have h1:=h.setV hd (show k<8 by simp only[List.length_cons] at hk;omega) x (fun i j=>if i=(d:Nat)/\j=(k:Nat) then x else S.v i j) (fun i j hi hj=>by
   by_cases hij:i=d/\j=k
   ·rw[ijp (by omega),ijp hij]
   ·rw[ijn (by omega),ijn hij])
  have h2:=Ag.setVs hd ws (k+1) g hk' h1 (fun i j hi hj=>by
   rw[hg i j hi hj];dsimp only;simp only[List.length_cons];by_cases hid:i=d
   ·by_cases hjk:j=k
    ·subst hid hjk;rw[ijp ⟨rfl,by omega,by omega⟩,ijn (by omega),ijp ⟨rfl,rfl⟩,Nat.sub_self];rfl
    ·by_cases hin:k+1<=j/\j<k+1+ws.length
     ·rw[ijp ⟨hid,by omega,by omega⟩,ijp ⟨hid,hin⟩,show j-k=(j-(k+1))+1 by omega];rfl
     ·rw[ijn (by omega),ijn (by omega),ijn (by omega)]
   ·rw[ijn (by omega),ijn (by omega),ijn (by omega)])
  exact h2
theorem Ag.congW (h:Ag w A m xs S)(g:Int->Int->Int)(hg:∀i j:Nat,i<8->j<8->g (i:Nat) (j:Nat)=S.wt (i:Nat) (j:Nat)):Ag w A m xs {S with wt:=g }:=by
 refine⟨?_,h.stat,h.mem,h.que,h.loops,h.kd⟩
 have e:Ce m A S xs.length=Ce m A {S with wt:=g } xs.length:=by
  apply Array.ext_getElem?
  intro i;by_cases hi:i<170
  ·rw[Dp _ _ _ _ hi,Dp _ _ _ _ hi];congr 1
   unfold chF;by_cases h1:i<10
   ·rw[ijp h1,ijp h1]
   rw[ijn h1,ijn h1];by_cases h2:i<26
   ·rw[ijp h2,ijp h2]
   rw[ijn h2,ijn h2];by_cases h3:i<90
   ·rw[ijp h3,ijp h3];skip
   rw[ijn h3,ijn h3];by_cases h4:i<154
   ·rw[ijp h4,ijp h4];dsimp only;rw[hg ((i-90) / 8) ((i-90) % 8) (by omega) (by omega)]
   rw[ijn h4,ijn h4]
  ·have h1:(Ce m A S xs.length)[i]? = none:=Array.getElem?_eq_none (by simp[Ce];omega);have h2:(Ce m A {S with wt:=g } xs.length)[i]? = none:=Array.getElem?_eq_none (by simp[Ce];omega);rw[h1,h2]
 rw[<-e];exact h.chip
theorem Ag.setWts {d:Nat}(hd:d<8):∀(ws:List Int) (k:Nat) {w:World} {S:MS} (g:Int->Int->Int),k+ws.length<=8->Ag w A m xs S->
  (∀i j:Nat,i<8->j<8->g (i:Nat) (j:Nat)=if i=d/\k<=j/\j<k+ws.length then ws.getD (j-k) 0 else S.wt (i:Nat) (j:Nat))->
  Ag (w.setCells A.c (90+d*8+k) (ws.map (Value.int .i64))) A m xs {S with wt:=g }
 | [],k,w,S,g,_,h,hg=>h.congW g (fun i j hi hj=>by rw[hg i j hi hj,if_neg];simp only[List.length_nil];omega)
 | x :: ws,k,w,S,g,hk,h,hg=>by
  have hk':k+1+ws.length<=8:=by simp only[List.length_cons] at hk;omega
  have h1:=h.setWt hd (show k<8 by simp only[List.length_cons] at hk;omega) x (fun i j=>if i=(d:Nat)/\j=(k:Nat) then x else S.wt i j) (fun i j hi hj=>by
   by_cases hij:i=d/\j=k
   ·rw[ijp (by omega),ijp hij]
   ·rw[ijn (by omega),ijn hij])
  have h2:=Ag.setWts hd ws (k+1) g hk' h1 (fun i j hi hj=>by
   rw[hg i j hi hj];dsimp only;simp only[List.length_cons];by_cases hid:i=d
   ·by_cases hjk:j=k
    ·subst hid hjk;rw[ijp ⟨rfl,by omega,by omega⟩,ijn (by omega),ijp ⟨rfl,rfl⟩,Nat.sub_self];rfl
    ·by_cases hin:k+1<=j/\j<k+1+ws.length
     ·rw[ijp ⟨hid,by omega,by omega⟩,ijp ⟨hid,hin⟩,show j-k=(j-(k+1))+1 by omega];rfl
     ·rw[ijn (by omega),ijn (by omega),ijn (by omega)]
   ·rw[ijn (by omega),ijn (by omega),ijn (by omega)])
  exact h2
end
theorem Afd {w:World}{A:CA}{m:Mc}{xs:List Ins}{S:MS}(h:Ag w A m xs S)(hw:WfM m S)(xk xc xp xn xm:Int)(d a b:Nat)(hv:VI m ⟨9,xk,d,a,b,xc,xp,xn,xm⟩)(hb0:Cg m S (Ae m S ⟨9,xk,d,a,b,xc,xp,xn,xm⟩) (Ab m S ⟨9,xk,d,a,b,xc,xp,xn,xm⟩)=0) :
  Calls prog 45 #[.pointer (some A.c),.agg #[(9:Int),xk,d,a,b,xc,xp,xn,xm]] w (Fb A m xs (Az m S ⟨9,xk,d,a,b,xc,xp,xn,xm⟩) w):=by
 have HEF:Hd (Az m S ⟨9,xk,d,a,b,xc,xp,xn,xm⟩={S with v:=Be S.v d fun k=>if 0<=k/\k<m.lanes then(S.words ⟨xc,S.r a+xn,m.lanes⟩).getD k.toNat 0 else S.v d k }):=hd (by simp[Az,Ae]);rw[HEF.o];have HH:=hd h;have HV:=hd hv;have HW:=hd hw;have HB0:=hd hb0;have hm:=Bc h.kd.ok;have hd16:d<16:=by have:=hv.d;dsimp only at this;omega
 have ha16:a<16:=by have:=hv.a;dsimp only at this;omega
 have hb16:b<16:=by have:=hv.b;dsimp only at this;omega
 have hdZ:((d:Nat):Int)<16:=by omega
 have haZ:((a:Nat):Int)<16:=by omega
 have hbZ:((b:Nat):Int)<16:=by omega
 have HT:=hd (fun W (hW:Ext [] w W)=>Cu (h.nil hW) hw 9 xk d a b xc xp xn xm hv);have HX:=hd (Blk.new w 76 #[(9:Int),xk,d,a,b,xc,xp,xn,xm]);have HE0:=hd ((Ext.refl [] w).alloc (.cells #[(9:Int),xk,d,a,b,xc,xp,xn,xm] 76));have hr:=(Fm (by rw[hb0];decide)).1 ⟨xc,S.r (a:Nat)+xn,m.lanes⟩ (by simp[Ae]);have ho:=Cq hr;have hcb:=hv.cb (by simp);dsimp only at hcb;obtain⟨c,rfl⟩:∃n:Nat,xc=n:=⟨xc.toNat,by omega⟩;have hcB:c<m.banks.toNat:=by omega
 have hd8:d<8:=by have:=hv.dv (by simp);dsimp only at this;omega
 have hd8Z:((d:Nat):Int)<8:=by omega
 obtain⟨L,hL⟩:∃n:Nat,m.lanes=n:=⟨m.lanes.toNat,by omega⟩;have HLL:=hd hL;have hL8:L<=8:=by omega
 have hL1:1<=L:=by omega
 have hLI:(L:Int)<=8:=by omega
 have hsz:Bn m ((c:Nat):Int)=m.bank:=by unfold Bn;rw[ijn (by omega)]
 dsimp only at ho;rw[hsz,hL] at ho;obtain⟨lo,hlo⟩:∃n:Nat,S.r (a:Nat)+xn=n:=⟨(S.r (a:Nat)+xn).toNat,by omega⟩;rw[hlo] at ho;have hloN:lo+L<=m.bank.toNat:=by omega
 have HLO:=hd hlo;have HER:Hd (Ae m S ⟨9,xk,d,a,b,(c:Nat),xp,xn,xm⟩=[⟨(c:Nat),(lo:Nat),(L:Nat)⟩]):=hd (by simp[Ae,hlo,hL]);clear hr ho hsz hlo hL;rw[HLO.o,HLL.o];clear h hw hv hb0;go_enter func45,ntmps45
 go_wp2_with fail
 generalize w.alloc (.cells #[(9:Int),xk,d,a,b,c,xp,xn,xm] 76)=w0 at *;generalize hxb:w.heap.size=xbk at *;refine(HT.o _ HE0.o).mono ?_
 rintro e w1 ⟨Ra,lr,cr,Wa,lw,cw,rfl,hlr,hlw,hE1,hR,hWr,-,-⟩;have HE1:=hd (HE0.o.trans hE1);have HX1:=hd (HX.o.ext hE1 (by simp));have HLR:=hd hlr;have HLW:=hd hlw;have HR:=hd hR;have HWr:=hd hWr;clear hE1 hlr hlw hR hWr HT;have q3:=(HH.o.nil HE1.o).cell (i:=3) (by omega) (v:=m.lanes) rfl;have ql:=HH.o.lt;have ql1:=(HH.o.nil HE1.o).lt;have qxc:=HX1.o.cell;have qxl:=HX1.o.lt;go_wp2_with fail
 clear q3 ql1 qxc qxl;rw[HLL.o];have hR1:=HR.o;rw[HER.o] at hR1;have hl1:lr=1:=by rw[<-HLR.o,HER.o];rfl
 subst hl1;obtain⟨rb,ro,rfl,hrb,hr0,hr1,hr2⟩:=hR1.at (k:=0) rfl;dsimp only at hr0 hr1 hr2;have HR0:=hd hr0;have HR1:=hd hr1;have HR2:=hd hr2;clear hr0 hr1 hr2 hR1;refine rgH 13 [(12,sSl (A.bk c) lo L)] ?_ ?_
 ·exact Ah.cons sSl.stays Ah.nil
 simp only[TK]
 repeat(refine dE (fun wr nr hJ=>by(have hC:=HH.o.nil (HE1.o.trans hJ.1);have qcl:=hC.lt;have qx:=HX1.o.ext hJ.1 (by simp);have qxc:=qx.cell;have qxl:=qx.lt;clear qx;have c0:=hJ.1.held HR0.o (by simp);have c1:=hJ.1.held HR1.o (by simp);have c2:=hJ.1.held HR2.o (by simp);simp only[Nat.zero_mul,Nat.add_zero] at c0 c1 c2;have cl:rb<wr.heap.size:=nl hrb hJ.1.size;clear hC);clear hJ;exact CL) ?_;simp only[PT])
 refine Et (sSl (A.bk c) lo L) rfl rfl ?_ ?_
 ·apply Exists.intro
  apply Exists.intro
  refine⟨fun wr=>?_,fun wr nr hJ _=>?_⟩
  ·go_simp
   first|exact⟨rfl,rfl⟩|rfl
  ·refine(Ia (HH.o.nil (HE1.o.trans hJ.1)) c lo L hcB hL1 hloN).mono ?_
   rintro e w' ⟨cap,rfl,hcap,hE⟩;exact⟨cap,rfl,hcap,hE⟩
 intro (cap:Nat);simp only[PT];dsimp only[sSl];refine Aa (fun w2 hJ hF=>?_)
 have HE2:=hd (HE1.o.trans hJ.1);have HC2:=hd (HH.o.nil HE2.o);have HWL:Hd ((S.words ⟨(c:Nat),(lo:Nat),(L:Nat)⟩).length=L):=hd (by unfold MS.words;simp)
 have HWG:Hd (∀j x,(S.words ⟨(c:Nat),(lo:Nat),(L:Nat)⟩)[j]? = some x->j<L/\x=S.mem (c:Nat) ((lo:Int)+(j:Nat))):=hd (fun j x hj=>by
  have hlt:=(ils hj).1;rw[HWL.o] at hlt;refine⟨hlt,?_⟩
  have h2:=(ils hj).2;unfold MS.words at h2;rw[List.getElem_map,List.getElem_range] at h2;exact h2.symm)
 have hcp:∀ty,(Builtin.copy_ #[22,22] ty #[.slice (some ⟨A.c,26+d*8,none⟩) L 8,.slice (some ⟨A.bk c,lo,none⟩) L cap]).run prog w2=.ok (goInt (L:Nat)) (w2.setCells A.c (26+d*8) ((S.words ⟨(c:Nat),(lo:Nat),(L:Nat)⟩).map (Value.int .i64))):=fun ty=>by
  have hr:=run_copy_cells (P:=prog) w2 22 22 ty 3 A.c (26+d*8) L 8 ⟨A.bk c,lo,none⟩ L cap ((S.words ⟨(c:Nat),(lo:Nat),(L:Nat)⟩).map (Value.int .i64)) underlying22 (by kernel_rfl) (by rw[List.length_map,HWL.o];exact(Nat.min_self L).symm)
   (fun j v hv=>by
    rw[List.getElem?_map] at hv;cases hj:(S.words ⟨(c:Nat),(lo:Nat),(L:Nat)⟩)[j]? with
    | none=>rw[hj] at hv;cases hv
    | some y=>
     rw[hj] at hv;cases hv;obtain⟨h1,rfl⟩:=HWG.o j y hj;rw[Addr.add_mk,(HC2.o.mem.bank c hcB).cell (i:=lo+j) (by omega)];congr 2)
   (fun j hj=>by rw[List.length_map,HWL.o] at hj;rw[HC2.o.vcell hd8 (k:=j) (by omega)];rfl)
   (fun j hj=>HC2.o.chip.frozen _)
   (fun v hv=>by obtain⟨y,_,rfl⟩:=List.mem_map.1 hv;rfl)
  rw[List.length_map,HWL.o] at hr;exact hr
 have HC3:=hd (Ag.setVs hd8 (S.words ⟨(c:Nat),(lo:Nat),(L:Nat)⟩) 0 (Be S.v (d:Nat) fun k=>if 0<=k/\k<(L:Int) then(S.words ⟨(c:Nat),(lo:Nat),(L:Nat)⟩).getD k.toNat 0 else S.v (d:Nat) k) (by rw[HWL.o];omega) HC2.o (fun i j hi hj=>by
  rw[HWL.o];unfold Be;by_cases hid:i=d
  ·subst hid;rw[ijp rfl];by_cases hjl:j<L
   ·rw[ijp ⟨by omega,by omega⟩,ijp ⟨rfl,by omega,by omega⟩,Int.toNat_natCast,Nat.sub_zero]
   ·rw[ijn (by omega),ijn (by omega)]
  ·rw[ijn (by omega),ijn (by omega)]))
 rw[Nat.add_zero] at HC3;have HE3:Hd (Aj A w (w2.setCells A.c (26+d*8) ((S.words ⟨(c:Nat),(lo:Nat),(L:Nat)⟩).map (Value.int .i64)))):=hd (Aj.of (T:=[A.c]) (Ext.setCells (.inl (by simp)) _ _ HE2.o.nil) (fun x hx=>by rw[ms hx,HH.o.kd.kc];omega));clear hF hJ;generalize hws:w2.setCells A.c (26+d*8) ((S.words ⟨(c:Nat),(lo:Nat),(L:Nat)⟩).map (Value.int .i64))=w3 at *;clear hws;go_wp2_with fail
 go_end0
 exact⟨rfl,HE3.o,HC3.o⟩
end
section
attribute [local irreducible] Ax
theorem Ac6 {w:World}{A:CA}{m:Mc}{xs:List Ins}{S:MS}(h:Ag w A m xs S)(xk xd xa xb xc xp xn xm:Int)(Ra:Option Addr)(L cr c:Nat)(rs:List Ar)(hR:RdA w Ra rs)(hrl:rs.length=L)(hL:m.lanes=L)(hL8:L<=8)(hL1:1<=L)(hcB:c<m.banks.toNat)
  (hRa:∀y,Ra=some y->y.block≠A.c)
  (hrs:∀(i:Nat) (a:Ar),rs[i]? = some a->∃lo:Nat,a=⟨(c:Nat),(lo:Nat),(L:Nat)⟩/\lo+L<=m.bank.toNat) :
  Calls prog 83 #[.pointer (some A.c),.agg #[(14:Int),xk,xd,xa,xb,xc,xp,xn,xm],.slice Ra L cr] w (Fb A m xs {S with wt:=fun i j=>if 0<=i/\i<(L:Int)/\0<=j/\j<(L:Int) then(S.words (rs.getD i.toNat ⟨0,0,0⟩)).getD j.toNat 0 else S.wt i j } w):=by
 have HH:=hd h;have HX:=hd (Blk.new w 76 #[(14:Int),xk,xd,xa,xb,xc,xp,xn,xm]);have HE0:=hd ((Ext.refl [] w).alloc (.cells #[(14:Int),xk,xd,xa,xb,xc,xp,xn,xm] 76));have HR:=hd hR;have HRL:=hd hrl;have HRS:=hd hrs;have HRA:=hd hRa;have HLL:=hd hL;have ql:=h.lt;have q3:=(h.nil HE0.o).cell (i:=3) (by omega) (v:=m.lanes) rfl;rw[hL] at q3;have ql1:=(h.nil HE0.o).lt;have hLI:(L:Int)<=8:=by omega
 clear h hR hrl hrs hL hRa;go_enter func83,ntmps83
 go_wp2_with fail
 clear q3 ql1;generalize w.alloc (.cells #[(14:Int),xk,xd,xa,xb,xc,xp,xn,xm] 76)=w0 at *;generalize hxb:w.heap.size=xbk at *;go_loopw [23] (fun i wr=>∃k:Nat,i=.int .i64 k/\k<=L/\Hd (Aj A w wr)/\Hd (Ag wr A m xs {S with wt:=fun i j=>if 0<=i/\i<((k:Nat):Int)/\0<=j/\j<(L:Int) then(S.words (rs.getD i.toNat ⟨0,0,0⟩)).getD j.toNat 0 else S.wt i j })/\Hd (RdA wr Ra rs)) (fun i _=>(L-intOf i).toNat)
 case atStart=>exact⟨0,rfl,by omega,hd (Aj.of (A:=A) HE0.o (by simp)),hd ((HH.o.nil HE0.o).congW _ (fun i j hi hj=>by first|rw[ijn (by omega)]|(dsimp only;rw[ijn (by omega)]))),hd (HR.o.ext HE0.o (by simp))⟩
 case round=>
  obtain⟨k,rfl,hk,HEk,HCk,HRk⟩:=hrel;rename World=>wk
  by_cases hlt:k<L
  ·have hk8:k<8:=by omega
   have hkZ:((k:Nat):Int)<8:=by omega
   obtain⟨ar,har⟩:∃a,rs[k]? = some a:=⟨_,List.getElem?_eq_getElem (by have:=HRL.o;omega)⟩;obtain⟨lo,hlo,hloN⟩:=HRS.o k ar har;subst hlo;obtain⟨rb,ro,rfl,hrb,hr0,hr1,hr2⟩:=HRk.o.at har;dsimp only at hr0 hr1 hr2;have HAR:=hd har;clear har;go_upto_region 7 with fail
   have HB7:=hd (Blk.new wk 91 #[(c:Nat),(lo:Nat),(L:Nat)]);have HE7:=hd ((Ext.refl [] wk).alloc (.cells #[(c:Nat),(lo:Nat),(L:Nat)] 91));clear hr0 hr1 hr2;generalize wk.alloc (.cells #[(c:Nat),(lo:Nat),(L:Nat)] 91)=w7 at *;generalize hbl:wk.heap.size=bl at *;refine rgH 10 [(9,sSl (A.bk c) lo L)] ?_ ?_
   ·exact Ah.cons sSl.stays Ah.nil
   simp only[TK]
   repeat(refine dE (fun wr nr hJ=>by(have qx:=HB7.o.ext hJ.1 (by simp);have qxc:=qx.cell;have qxl:=qx.lt;clear qx;have qcl:=(HCk.o.nil (HE7.o.trans hJ.1)).lt);clear hJ;exact CL) ?_;simp only[PT])
   refine Et (sSl (A.bk c) lo L) rfl rfl ?_ ?_
   ·apply Exists.intro
    apply Exists.intro
    refine⟨fun wr=>?_,fun wr nr hJ _=>?_⟩
    ·go_simp
     first|exact⟨rfl,rfl⟩|rfl
    ·refine(Ia (HCk.o.nil (HE7.o.trans hJ.1)) c lo L hcB hL1 hloN).mono ?_
     rintro e w' ⟨cap,rfl,hcap,hE⟩;exact⟨cap,rfl,hcap,hE⟩
   intro (cap:Nat);simp only[PT];dsimp only[sSl];refine Aa (fun w2 hJ hF=>?_)
   have HE2:=hd (HE7.o.trans hJ.1);have HC2:=hd (HCk.o.nil HE2.o);have HR2:=hd (HRk.o.ext HE2.o (by simp));have HWL:Hd ((S.words ⟨(c:Nat),(lo:Nat),(L:Nat)⟩).length=L):=hd (by unfold MS.words;simp)
   have HWG:Hd (∀j x,(S.words ⟨(c:Nat),(lo:Nat),(L:Nat)⟩)[j]? = some x->j<L/\x=S.mem (c:Nat) ((lo:Int)+(j:Nat))):=hd (fun j x hj=>by
    have hlt:=(ils hj).1;rw[HWL.o] at hlt;refine⟨hlt,?_⟩
    have h2:=(ils hj).2;unfold MS.words at h2;rw[List.getElem_map,List.getElem_range] at h2;exact h2.symm)
   have hcp:∀ty,(Builtin.copy_ #[22,22] ty #[.slice (some ⟨A.c,90+k*8,none⟩) L 8,.slice (some ⟨A.bk c,lo,none⟩) L cap]).run prog w2=.ok (goInt (L:Nat)) (w2.setCells A.c (90+k*8) ((S.words ⟨(c:Nat),(lo:Nat),(L:Nat)⟩).map (Value.int .i64))):=fun ty=>by
    have hr:=run_copy_cells (P:=prog) w2 22 22 ty 3 A.c (90+k*8) L 8 ⟨A.bk c,lo,none⟩ L cap ((S.words ⟨(c:Nat),(lo:Nat),(L:Nat)⟩).map (Value.int .i64)) underlying22 (by kernel_rfl) (by rw[List.length_map,HWL.o];exact(Nat.min_self L).symm)
     (fun j v hv=>by
      rw[List.getElem?_map] at hv;cases hj:(S.words ⟨(c:Nat),(lo:Nat),(L:Nat)⟩)[j]? with
      | none=>rw[hj] at hv;cases hv
      | some y=>
       rw[hj] at hv;cases hv;obtain⟨h1,rfl⟩:=HWG.o j y hj;rw[Addr.add_mk,(HC2.o.mem.bank c hcB).cell (i:=lo+j) (by omega)];congr 2)
     (fun j hj=>by rw[List.length_map,HWL.o] at hj;rw[HC2.o.wcell hk8 (k:=j) (by omega)];rfl)
     (fun j hj=>HC2.o.chip.frozen _)
     (fun v hv=>by obtain⟨y,_,rfl⟩:=List.mem_map.1 hv;rfl)
    rw[List.length_map,HWL.o] at hr;exact hr
   have HC3:=hd (Ag.setWts hk8 (S.words ⟨(c:Nat),(lo:Nat),(L:Nat)⟩) 0 (fun i j=>if 0<=i/\i<((k+1:Nat):Int)/\0<=j/\j<(L:Int) then(S.words (rs.getD i.toNat ⟨0,0,0⟩)).getD j.toNat 0 else S.wt i j) (by rw[HWL.o];omega) HC2.o (fun i j hi hj=>by
    rw[HWL.o];dsimp only;by_cases hid:i=k
    ·subst hid;by_cases hjl:j<L
     ·rw[ijp ⟨by omega,by omega,by omega,by omega⟩,ijp ⟨rfl,by omega,by omega⟩,Int.toNat_natCast,Int.toNat_natCast,Nat.sub_zero,List.getD_eq_getElem?_getD (l:=rs),HAR.o];rfl
     ·rw[ijn (by omega),ijn (by omega),ijn (by omega)]
    ·rw[ijn (c:=i=k/\0<=j/\j<0+L) (by omega)];by_cases hik:i<k
     ·by_cases hjl:j<L
      ·rw[ijp ⟨by omega,by omega,by omega,by omega⟩,ijp ⟨by omega,by omega,by omega,by omega⟩]
      ·rw[ijn (by omega),ijn (by omega)]
     ·rw[ijn (by omega),ijn (by omega)]))
   rw[Nat.add_zero] at HC3;have HE3:Hd (Ext [A.c] wk (w2.setCells A.c (90+k*8) ((S.words ⟨(c:Nat),(lo:Nat),(L:Nat)⟩).map (Value.int .i64)))):=hd (Ext.setCells (.inl (by simp)) _ _ HE2.o.nil);have HEC3:=hd (HEk.o.trans (Aj.of (A:=A) HE3.o (fun x hx=>by rw[ms hx,HH.o.kd.kc];omega)));have HR3:=hd (HRk.o.ext HE3.o (fun y hy=>by have:=HRA.o y hy;simpa using this));clear hF hJ;generalize hws:w2.setCells A.c (90+k*8) ((S.words ⟨(c:Nat),(lo:Nat),(L:Nat)⟩).map (Value.int .i64))=w3 at *;clear hws;go_wp2_with fail
   go_roundw
   case rel=>exact⟨k+1,by go_num,by omega,HEC3,HC3,HR3⟩
   case measure=>simp[intOf];omega
  ·have hkL:k=L:=by omega
   subst hkL;go_wp2_with fail
   go_end0
   exact⟨rfl,HEk.o,HCk.o⟩
end
section
attribute [local irreducible] Ax
theorem Ub {x y:Int}(hx:isW x)(hy:isW y) : -4611686018427387904<=x*y/\x*y<=4611686018427387904:=by
 unfold isW at *;have h1:=Int.natAbs_mul x y;have h2:x.natAbs<=2147483648:=by omega
 have h3:y.natAbs<=2147483648:=by omega
 have h4:=Nat.mul_le_mul h2 h3;rw[<-h1] at h4;omega
theorem Ac7 {w:World}{A:CA}{m:Mc}{xs:List Ins}{S:MS}(h:Ag w A m xs S)(hw:WfM m S)(xk xd xb xc xp xn xm:Int)(a:Nat)(ha8:a<8)(Ra:Value)(L:Nat)(hL:m.lanes=L)(hL8:L<=8) :
  Calls prog 83 #[.pointer (some A.c),.agg #[(15:Int),xk,xd,a,xb,xc,xp,xn,xm],Ra] w (Fb A m xs {S with acc:=fun j=>if 0<=j/\j<(L:Int) then Hz (S.v (a:Nat)) (fun i=>S.wt i j) (S.acc j) L else S.acc j } w):=by
 have HH:=hd h;have HW:=hd hw;have HX:=hd (Blk.new w 76 #[(15:Int),xk,xd,a,xb,xc,xp,xn,xm]);have HE0:=hd ((Ext.refl [] w).alloc (.cells #[(15:Int),xk,xd,a,xb,xc,xp,xn,xm] 76));have ql:=h.lt;have q3:=(h.nil HE0.o).cell (i:=3) (by omega) (v:=m.lanes) rfl;rw[hL] at q3;have ql1:=(h.nil HE0.o).lt;have haZ:((a:Nat):Int)<8:=by omega
 clear h hL hw;go_enter func83,ntmps83
 go_wp2_with fail
 clear q3 ql1;generalize w.alloc (.cells #[(15:Int),xk,xd,a,xb,xc,xp,xn,xm] 76)=w0 at *;generalize hxb:w.heap.size=xbk at *;have hcx:A.c<xbk:=ql;go_loopw [43] (fun i wr=>∃k:Nat,i=.int .i64 k/\k<=L/\Hd (Aj A w wr)/\Hd (Ag wr A m xs {S with acc:=fun j=>if 0<=j/\j<((k:Nat):Int) then Hz (S.v (a:Nat)) (fun i=>S.wt i j) (S.acc j) L else S.acc j })/\Hd (Blk wr xbk 76 #[(15:Int),xk,xd,a,xb,xc,xp,xn,xm])) (fun i _=>(L-intOf i).toNat)
 case atStart=>exact⟨0,rfl,by omega,hd (Aj.of (A:=A) HE0.o (by simp)),hd (by
  have h1:=HH.o.nil HE0.o
  have h2:{S with acc:=fun j=>if 0<=j/\j<((0:Nat):Int) then Hz (S.v (a:Nat)) (fun i=>S.wt i j) (S.acc j) L else S.acc j }=S:=by
   have h3:(fun j=>if 0<=j/\j<((0:Nat):Int) then Hz (S.v (a:Nat)) (fun i=>S.wt i j) (S.acc j) L else S.acc j)=S.acc:=by
    funext j
    rw[ijn (by omega)]
   rw[h3]
  rw[h2];exact h1),HX⟩
 case round=>
  obtain⟨k,rfl,hk,HEk,HCk,HXk⟩:=hrel;rename World=>wk
  by_cases hlt:k<L
  ·have hk8:k<8:=by omega
   have hkZ:((k:Nat):Int)<8:=by omega
   have qa:=HCk.o.acell hk8;dsimp only at qa;rw[ijn (by omega)] at qa;have ql1:=HCk.o.lt;go_wp2_with fail
   clear qa ql1;go_loopw [10,53] (fun s i wr=>∃q:Nat,i=.int .i64 q/\s=.int .i64 (Hz (S.v (a:Nat)) (fun i=>S.wt i (k:Nat)) (S.acc (k:Nat)) q)/\q<=L/\Hd (Ext [] wk wr)) (fun _ i _=>(L-intOf i).toNat)
   case atStart=>exact⟨0,rfl,rfl,by omega,hd er⟩
   case round=>
    obtain⟨q,rfl,rfl,hq,HEq⟩:=hrel;rename World=>wq
    by_cases hlq:q<L
    ·have hq8:q<8:=by omega
     have hqZ:((q:Nat):Int)<8:=by omega
     have hpw:=Ub (HW.o.v (a:Nat) (q:Nat)) (HW.o.wt (q:Nat) (k:Nat));have hsw:isW (Hz (S.v (a:Nat)) (fun i=>S.wt i (k:Nat)) (S.acc (k:Nat)) q):=Oy _ _ (HW.o.acc _) q;obtain⟨P,hP⟩:∃P,P=S.v (a:Nat) (q:Nat)*S.wt (q:Nat) (k:Nat):=⟨_,rfl⟩;rw[<-hP] at hpw;obtain⟨hp0,hp1⟩:=hpw;have hmu:IntKind.i64.wrap (S.v (a:Nat) (q:Nat)*S.wt (q:Nat) (k:Nat))=P:=by rw[<-hP];exact IntWalk.i64_in _ (by omega)
     obtain⟨M,hM⟩:∃M,M=Hz (S.v (a:Nat)) (fun i=>S.wt i (k:Nat)) (S.acc (k:Nat)) q:=⟨_,rfl⟩;have HMS:Hd (Hz (S.v (a:Nat)) (fun i=>S.wt i (k:Nat)) (S.acc (k:Nat)) (q+1)=w32 (M+w32 P)):=hd (by rw[hM,hP];rfl);rw[<-hM] at hsw;have hw3:=Hl P;unfold isW at hsw hw3;obtain⟨hs0,hs1⟩:=hsw;obtain⟨hw30,hw31⟩:=hw3;have hwa:IntKind.i64.wrap (M+w32 P)=M+w32 P:=IntWalk.i64_in _ (by omega);rw[<-hM];have HP:=hd hP;have HM:=hd hM;have HW1:=hd (Ja P);have HW2:=hd (Ja (M+w32 P));clear hP hM;go_wp2_with fail
     refine rgE 22 [(19,Bv (.int .i64 (w32 P))),(21,Bv (.int .i64 (w32 (M+w32 P))))] ?_
     simp only[TK]
     repeat(refine dE (fun wr nr hJ=>by(have hC:=HCk.o.nil (HEq.o.trans hJ);have qcl:=hC.lt;have qx:=(HXk.o.ext HEq.o (by simp)).ext hJ (by simp);have qxc:=qx.cell;have qxl:=qx.lt;clear qx;have qv:=hC.vcell ha8 hq8;have qw:=hC.wcell hq8 hk8;dsimp only at qv qw;clear hC);clear hJ;exact CL) ?_;simp only[PT])
     refine Bj rfl rfl ?_ ?_
     ·apply Exists.intro
      apply Exists.intro
      refine⟨fun wr=>?_,fun wr nr hJ=>?_⟩
      ·go_simp
       first|exact⟨rfl,rfl⟩|rfl
      ·exact(HW1.o _).mono (fun e w' h=>⟨h.1,by rw[h.2];exact er⟩)
     simp only[PT]
     repeat(refine dE (fun wr nr hJ=>by clear hJ;exact CL) ?_;simp only[PT])
     refine Bj rfl rfl ?_ ?_
     ·apply Exists.intro
      apply Exists.intro
      refine⟨fun wr=>?_,fun wr nr hJ=>?_⟩
      ·go_simp
       first|exact⟨rfl,rfl⟩|rfl
      ·exact(HW2.o _).mono (fun e w' h=>⟨h.1,by rw[h.2];exact er⟩)
     simp only[PT];refine Aa (fun w2 hJ hF=>?_)
     have HE2:=hd (HEq.o.trans hJ);clear hF hJ hmu hwa;go_wp2_with fail
     go_roundw
     case rel=>exact⟨q+1,by go_num,by rw[HMS.o],by omega,HE2⟩
     case measure=>simp[intOf];omega
    ·have hqL:q=L:=by omega
     subst hqL;have HCq:=hd (HCk.o.nil HEq.o);have HXq:=hd (HXk.o.ext HEq.o (by simp));have q1:=HCq.o.acell hk8;have q2:=HCq.o.chip.frozen (154+k);have ql2:=HCq.o.lt
     have HC3:Hd (Ag (wq.setCell ⟨A.c,154+k,none⟩ (.int .i64 (Hz (S.v (a:Nat)) (fun i=>S.wt i (k:Nat)) (S.acc (k:Nat)) q))) A m xs {S with acc:=fun j=>if 0<=j/\j<((k+1:Nat):Int) then Hz (S.v (a:Nat)) (fun i=>S.wt i j) (S.acc j) q else S.acc j }):=hd (HCq.o.setA hk8 _ _ (fun j hj=>by
      dsimp only;by_cases hjk:j=k
      ·subst hjk;rw[ijp ⟨by omega,by omega⟩,ijp rfl]
      ·rw[ijn hjk];by_cases hj2:j<k
       ·rw[ijp ⟨by omega,by omega⟩,ijp ⟨by omega,by omega⟩]
       ·rw[ijn (by omega),ijn (by omega)]))
     have HE3:=hd (Aj.own HH.o (HEk.o.trans (Aj.of (A:=A) HEq.o (by simp))) (154+k) (.int .i64 (Hz (S.v (a:Nat)) (fun i=>S.wt i (k:Nat)) (S.acc (k:Nat)) q)));have HX3:=hd (HXq.o.far (p:=⟨A.c,154+k,none⟩) (show xbk≠A.c by omega) (.int .i64 (Hz (S.v (a:Nat)) (fun i=>S.wt i (k:Nat)) (S.acc (k:Nat)) q)));go_wp2_with fail
     go_roundw
     case rel=>exact⟨k+1,by go_num,by omega,HE3,HC3,HX3⟩
     case measure=>simp[intOf];omega
  ·have hkL:k=L:=by omega
   subst hkL;go_wp2_with fail
   go_end0
   exact⟨rfl,HEk.o,HCk.o⟩
end
section
attribute [local irreducible] Ax
theorem Ag.setTr {w:World}{A:CA}{m:Mc}{xs:List Ins}{S:MS}(h:Ag w A m xs S)(d:Nat)(hd:d<m.queues.toNat)(t:Tr)(b u cap:Nat)(hB:Blk w b 93 (Jn t (some u) cap))(hU:RdW w (some u) t.words)(hk1:A.kd b=30+d)(hk2:A.kd u=8)(hul:u<w.heap.size) :
  Ag (w.setCell ⟨A.qb,d,none⟩ (.pointer (some b))) {A with tb:=fun i=>if i=(d:Nat) then b else A.tb i,ta:=fun i=>if i=(d:Nat) then some u else A.ta i,tc:=fun i=>if i=(d:Nat) then cap else A.tc i } m xs {S with q:=Be S.q (d:Nat) (some t) }:=by
 have hE:Ext [A.qb] w (w.setCell ⟨A.qb,d,none⟩ (.pointer (some b))):=er.setCell (.inl (by simp)) _;have hT:∀x∈[A.qb],A.kd x=4:=fun x hx=>by rw[ms hx];exact h.kd.kq
 have hst:=h.stat.ext h.kd hE (fun x hx=>by have:=hT x hx;omega);have hme:=h.mem.ext h.kd hE (fun x hx=>by have:=hT x hx;omega);refine⟨h.chip.ext hE (fun hm=>by have h0:=hT _ hm;have h1:=h.kd.kc;omega),⟨hst.code,hst.ends,hst.banks,hst.sets,hst.mcap⟩,⟨hme.main,hme.bank,hme.set⟩,⟨?_,fun i hi t' ht=>?_⟩,h.loops.ext hE (fun x hx=>by have:=hT x hx;omega),⟨h.kd.ok,h.kd.kc,h.kd.km,h.kd.kb,h.kd.ks,h.kd.kq,h.kd.ke,h.kd.ko,h.kd.kbk,h.kd.ksb⟩⟩
 ·refine h.que.queue.set d _ (fun j _=>?_)
  unfold Od;dsimp only;by_cases hj:j=d
  ·subst hj;rw[ijp rfl,Bt,ijp rfl]
  ·rw[ijn hj,Cw _ _ (by omega),ijn (by omega)]
 ·by_cases hid:i=d
  ·subst hid;dsimp only at ht⊢;rw[Bt] at ht;cases ht
   rw[ijp rfl,ijp rfl,ijp rfl];exact⟨hB.ext hE (fun hm=>by have h0:=hT _ hm;omega),hU.ext hE (fun a ha hm=>by cases ha;have h0:A.kd u=4:=hT _ hm;omega),hk1,fun a ha=>by cases ha;exact⟨hk2,nl hul hE.size⟩⟩
  ·dsimp only at ht⊢;rw[Cw _ _ (by omega)] at ht;rw[ijn (by omega),ijn (by omega),ijn (by omega)];obtain⟨h1,h2,h3,h4⟩:=h.que.trs i hi t' ht;exact⟨h1.ext hE (fun hm=>by have h0:=hT _ hm;have:=h.kd.small;omega),h2.ext hE (fun a ha hm=>by have h0:=hT _ hm;have:=h4 a ha;omega),h3,fun a ha=>⟨(h4 a ha).1,nl (h4 a ha).2 hE.size⟩⟩
def sCl (B n:Nat)(ws:List Int):Bo:=⟨Nat×Nat,(0,0),fun u=>.slice (some u.1) n u.2,fun u w=>Ek w u.1 0 ws/\B<=u.1/\u.1<w.heap.size⟩
def sTa (B n:Nat)(ws:List Int)(sb sl sn db dl dn:Int):Bo:=⟨Nat×Nat,(0,0),fun u=>.agg #[sb,sl,sn,db,dl,dn,.slice (some u.1) n u.2,(0:Int)],fun u w=>Ek w u.1 0 ws/\B<=u.1/\u.1<w.heap.size⟩
def TbV (B n:Nat)(ws:List Int)(sb sl sn db dl dn:Int)(b:Nat)(w:World):Prop:=B<=b/\∃u:Nat×Nat,u.1<b/\B<=u.1/\Ek w u.1 0 ws/\Blk w b 93 #[sb,sl,sn,db,dl,dn,.slice (some u.1) n u.2,(0:Int)]
def sTb (B n:Nat)(ws:List Int)(sb sl sn db dl dn:Int):Bo:=⟨Nat,0,fun b=>.pointer (some ⟨b,0,none⟩),TbV B n ws sb sl sn db dl dn⟩
theorem sCl.stays {B n:Nat}{ws:List Int}:∀y w w',RH [] w w'->(sCl B n ws).V y w->(sCl B n ws).V y w':=fun _ _ _ hR h=>⟨h.1.ext hR.1 List.not_mem_nil,h.2.1,nl h.2.2 hR.1.size⟩
theorem sTa.stays {B n:Nat}{ws:List Int}{sb sl sn db dl dn:Int}:∀y w w',RH [] w w'->(sTa B n ws sb sl sn db dl dn).V y w->(sTa B n ws sb sl sn db dl dn).V y w':=fun _ _ _ hR h=>⟨h.1.ext hR.1 List.not_mem_nil,h.2.1,nl h.2.2 hR.1.size⟩
theorem sTb.stays {B n:Nat}{ws:List Int}{sb sl sn db dl dn:Int}:∀y w w',RH [] w w'->(sTb B n ws sb sl sn db dl dn).V y w->(sTb B n ws sb sl sn db dl dn).V y w':=fun _ _ _ hR h=>by
 obtain⟨h1,u,h2,h3,h4,h5⟩:=h;exact⟨h1,u,h2,h3,h4.ext hR.1 List.not_mem_nil,h5.ext hR.1 List.not_mem_nil⟩
theorem Uc {w:World}{A:CA}{m:Mc}{xs:List Ins}{S:MS}(h:Ag w A m xs S)(hw:WfM m S)(xk xa xb xc xp xn xm:Int)(d:Nat)(hv:VI m ⟨18,xk,(d:Nat),xa,xb,xc,xp,xn,xm⟩)(sb sl sn db dl dn:Int)
  (hrs:Ae m S ⟨18,xk,(d:Nat),xa,xb,xc,xp,xn,xm⟩=[⟨sb,sl,sn⟩]) (hws:Ab m S ⟨18,xk,(d:Nat),xa,xb,xc,xp,xn,xm⟩=[⟨db,dl,dn⟩]) (g lo n:Nat) (hn:1<=n/\n<=4096) (ws:List Int) (hwl:ws.length=n)
  (hM:∀W,Ext [] w W->Calls prog 81 #[.pointer (some A.c),.agg #[sb,sl,sn]] W (SlP g lo n W)) (hNA:∀W,Ext [] w W->Ek W g lo ws) :
  Calls prog 45 #[.pointer (some A.c),.agg #[(18:Int),xk,d,xa,xb,xc,xp,xn,xm]] w (Og A m xs {S with q:=Be S.q (d:Nat) (some ⟨⟨sb,sl,sn⟩,⟨db,dl,dn⟩,ws,0⟩) } w):=by
 have HH:=hd h;have hm:=Bc h.kd.ok;have hdq:=hv.q (.inl rfl);dsimp only at hdq;have hdQ:d<m.queues.toNat:=by omega
 obtain⟨Q,hQ⟩:∃Q,m.queues.toNat=Q:=⟨_,rfl⟩;have HQ:=hd hQ;have hdI:((d:Nat):Int)<(Q:Int):=by omega
 have HDQ:=hd hdQ;have HT:=hd (fun W (hW:Ext [] w W)=>Cu (h.nil hW) hw 18 xk d xa xb xc xp xn xm hv);unfold Hr at HT;rw[hrs,hws] at HT;have HX:=hd (Blk.new w 76 #[(18:Int),xk,d,xa,xb,xc,xp,xn,xm]);have HE0:=hd ((Ext.refl [] w).alloc (.cells #[(18:Int),xk,d,xa,xb,xc,xp,xn,xm] 76));have HMM:=hd hM;have HNA:=hd hNA;have HWL:=hd hwl;have HCL:Hd (∀(W:World) (cap:Nat),Ek W g lo ws->Calls prog 37 #[.slice (some ⟨g,lo,none⟩) n cap] W (Xd ws W)):=hd (fun W cap hN=>by have:=Io g lo cap ws W hN (by omega) (by omega);rw[hwl] at this;exact this);clear h hw hv hM hNA hdq hQ hm hrs hws hdQ hwl;go_enter func45,ntmps45
 go_wp2_with fail
 generalize w.alloc (.cells #[(18:Int),xk,d,xa,xb,xc,xp,xn,xm] 76)=w0 at *;generalize hxb:w.heap.size=xbk at *;refine(HT.o _ HE0.o).mono ?_
 rintro e w1 ⟨Ra,lr,cr,Wa,lw,cw,rfl,hlr,hlw,hE1,hR,hWr,-,-⟩;have HE1:=hd (HE0.o.trans hE1);have HX1:=hd (HX.o.ext hE1 (by simp));have hl1:lr=1:=hlr.symm;have hl2:lw=1:=hlw.symm;subst hl1 hl2;obtain⟨rb,ro,rfl,hrb,hr0,hr1,hr2⟩:=hR.at (k:=0) rfl;obtain⟨wb,wo,rfl,hwb,hw0,hw1,hw2⟩:=hWr.at (k:=0) rfl;dsimp only at hr0 hr1 hr2 hw0 hw1 hw2;have HR0:=hd hr0;have HR1:=hd hr1;have HR2:=hd hr2;have HW0:=hd hw0;have HW1:=hd hw1;have HW2:=hd hw2;clear hE1 hR hWr HT hr0 hr1 hr2 hw0 hw1 hw2 hlr hlw;have q3:=(HH.o.nil HE1.o).cell (i:=3) (by omega) (v:=m.lanes) rfl;have ql:=HH.o.lt;have ql1:=(HH.o.nil HE1.o).lt;have qxc:=HX1.o.cell;have qxl:=HX1.o.lt;go_wp2_with fail
 clear q3 ql1 qxc qxl;refine rgH 20 [(16,sSl g lo n),(17,sCl w1.heap.size n ws),(18,sTa w1.heap.size n ws sb sl sn db dl dn),(19,sTb w1.heap.size n ws sb sl sn db dl dn)] ?_ ?_
 ·exact Ah.cons sSl.stays (Ah.cons sCl.stays (Ah.cons sTa.stays (Ah.cons sTb.stays Ah.nil)))
 simp only[TK]
 repeat(refine dE (fun wr nr hJ=>by(have hC:=HH.o.nil (HE1.o.trans hJ.1);have qcl:=hC.lt;have qx:=HX1.o.ext hJ.1 (by simp);have qxc:=qx.cell;have qxl:=qx.lt;clear qx;have c0:=hJ.1.held HR0.o (by simp);have c1:=hJ.1.held HR1.o (by simp);have c2:=hJ.1.held HR2.o (by simp);simp only[Nat.zero_mul,Nat.add_zero] at c0 c1 c2;have cl:rb<wr.heap.size:=nl hrb hJ.1.size;have d0:=hJ.1.held HW0.o (by simp);have d1:=hJ.1.held HW1.o (by simp);have d2:=hJ.1.held HW2.o (by simp);simp only[Nat.zero_mul,Nat.add_zero] at d0 d1 d2;have dl':wb<wr.heap.size:=nl hwb hJ.1.size;have q162:=hC.cell (i:=162) (by omega) (v:=.slice (some A.qb) m.queues.toNat m.queues.toNat) rfl;rw[HQ.o] at q162;clear hC);clear hJ;exact CL) ?_;simp only[PT])
 refine Et (sSl g lo n) rfl rfl ?_ ?_
 ·apply Exists.intro
  apply Exists.intro
  refine⟨fun wr=>?_,fun wr nr hJ _=>?_⟩
  ·go_simp
   first|exact⟨rfl,rfl⟩|rfl
  ·refine(HMM.o _ (HE1.o.trans hJ.1)).mono ?_
   rintro e w' ⟨cap,rfl,hcap,hE⟩;exact⟨cap,rfl,hcap,hE⟩
 intro (cap:Nat);simp only[PT];dsimp only[sSl];refine Et (sCl w1.heap.size n ws) rfl rfl ?_ ?_
 ·apply Exists.intro
  apply Exists.intro
  refine⟨fun wr=>?_,fun wr nr hJ _=>?_⟩
  ·go_simp
   first|exact⟨rfl,rfl⟩|rfl
  ·refine(HCL.o _ cap (HNA.o _ (HE1.o.trans hJ.1))).mono ?_
   rintro e w' ⟨g',c',rfl,hE,ho⟩;refine⟨(g',c'),by rw[HWL.o];rfl,⟨?_,?_,?_⟩,hE⟩
   ·intro j x hj;have:=ho.cells (g:=g') rfl j (.int .i64 x) (by rw[List.getElem?_map,hj];rfl);rw[Addr.add_mk] at this;exact this
   ·have h1:=Bf ho g' rfl;have h2:=hJ.1.size;omega
   ·exact(ho.lt g' rfl).2
 intro (u17:Nat×Nat);simp only[PT];dsimp only[sCl];refine Agl (sTa w1.heap.size n ws sb sl sn db dl dn) u17 rfl rfl ?_ ?_ ?_
 ·intro wr nr hJ;go_simp
  first|rfl|exact⟨rfl,rfl⟩|trace_state
 ·intro wr nr hJ hf;have f17:(sCl w1.heap.size n ws).V u17 wr:=Cm hf 17 (by kernel_rfl);exact f17
 intro (u18:Nat×Nat);simp only[PT];dsimp only[sTa];refine Ct (sTb w1.heap.size n ws sb sl sn db dl dn) rfl rfl ?_ ?_
 ·intro wr nr hJ hf;have f18:(sTa w1.heap.size n ws sb sl sn db dl dn).V u18 wr:=Cm hf 18 (by kernel_rfl);refine⟨wr.heap.size,.cells #[sb,sl,sn,db,dl,dn,.slice (some u18.1) n u18.2,(0:Int)] 93,?_,⟨hJ.1.size,u18,f18.2.2,f18.2.1,f18.1.ext ((Ext.refl [] wr).alloc _) (by simp),Blk.new _ _ _⟩⟩
  clear hJ hf f18;go_simp
  first|rfl|exact⟨rfl,rfl⟩
 intro (b19:Nat);simp only[PT];dsimp only[sTb];refine Aa (fun w2 hJ hF=>?_)
 have hf19:TbV w1.heap.size n ws sb sl sn db dl dn b19 w2:=hF 19;obtain⟨hb19,u,hu1,hu2,hu3,hu4⟩:=hf19;have HB:=hd hu4;have HU:=hd hu3;have HE2:=hd (HE1.o.trans hJ.1);have hww:=HE1.o.size;have HC2:=hd (HH.o.nil HE2.o);have qd:=HC2.o.que.queue.cell (i:=d) HDQ.o;have qdf:=HC2.o.que.queue.frozen d;have qdl:=HC2.o.que.queue.lt;have hub:u.1<b19:=hu1;have hwu:w.heap.size<=u.1:=by omega
 have hwb19:w.heap.size<=b19:=by omega
 have HK:Hd (∀x,x<w.heap.size->(fun x=>if x<w.heap.size then A.kd x else if x=b19 then 30+d else 8) x=A.kd x):=hd (fun x hx=>ijp hx);have HR2':=hd ((HH.o.rekd _ HK.o).nil HE2.o)
 have HT3:=hd (HR2'.out.setTr d HDQ.o ⟨⟨sb,sl,sn⟩,⟨db,dl,dn⟩,ws,0⟩ b19 u.1 u.2 (by
   have h1:=HB.o;unfold Jn;dsimp only;rw[HWL.o];exact h1) (.inr ⟨u.1,0,rfl,HU.o⟩) (by show(if _ then _ else _)=_;rw[ijn (by omega),ijp rfl]) (by show(if _ then _ else _)=_;rw[ijn (by omega),ijn (by omega)]) (Nat.lt_trans hub HB.o.lt))
 have HE3:Hd (Aj A w (w2.setCell ⟨A.qb,d,none⟩ (.pointer (some b19)))):=hd ((Aj.of (A:=A) HE2.o (by simp)).trans (Aj.of (A:=A) (T:=[A.qb]) (er.setCell (.inl (by simp)) _) (fun x hx=>by rw[ms hx,HH.o.kd.kq];omega)));clear hF hJ hu1 hu2 hu3 hu4 hb19;go_wp2_with fail
 go_end0
 exact⟨rfl,_,HE3.o,HT3.o,rfl,HK.o⟩
end
end Go.Proofs.YtkgmhggliifkjaaGreat
