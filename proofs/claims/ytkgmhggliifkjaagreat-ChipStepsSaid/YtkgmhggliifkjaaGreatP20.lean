import Derived.Test.YtkgmhggliifkjaaGreatP19
namespace Go.Proofs.YtkgmhggliifkjaaGreat
open Go.RowKit Go.Proofs.Tryz
set_option linter.all false
set_option maxHeartbeats 8000000
set_option maxRecDepth 100000
attribute [local irreducible] Ax
def AtP (A:CA)(m:Mc)(xs:List Ins)(S1:MS)(w:World)(b3:Nat)(X:Array Value)(wx:World):Prop:=
 ∃B,Aj A w wx/\Ag wx B m xs S1/\B.c=A.c/\(∀b,b<w.heap.size->B.kd b=A.kd b)/\40<=B.kd b3/\Blk wx b3 76 X
def Agn (A:CA)(m:Mc)(xs:List Ins)(S1:MS)(w:World)(b3:Nat)(X:Array Value)(ok:Prop)(wx:World):Prop:=ok/\AtP A m xs S1 w b3 X wx
theorem Adf {α:Type}(f:Int->α)(k:Int)(v u:α):Be (Be f k v) k u=Be f k u:=by funext j;unfold Be;split<;>rfl
theorem Blk.extC {w w':World}{A:CA}{b:Nat}{t:TypeId}{X:Array Value}(h:Blk w b t X)(hE:Aj A w w')(hb:40<=A.kd b):Blk w' b t X:=by
 obtain⟨T,h1,h2⟩:=hE;exact h.ext h1 (fun hm=>by have:=h2 b hm;omega)
theorem Ag.setFault {w:World}{A:CA}{m:Mc}{xs:List Ins}{S:MS}(h:Ag w A m xs S)(p:Nat)(k:Int):Ag (((w.setCell ⟨A.c,166,none⟩ p).setCell ⟨A.c,167,none⟩ k).setCell ⟨A.c,169,none⟩ (.bool true)) A m xs {S with fault:=some (p,k) }:=by
 have hE:Ext [A.c] w (((w.setCell ⟨A.c,166,none⟩ p).setCell ⟨A.c,167,none⟩ k).setCell ⟨A.c,169,none⟩ (.bool true)):=((er.setCell (.inl (by simp)) _).setCell (.inl (by simp)) _).setCell (.inl (by simp)) _;have hT:∀x∈[A.c],A.kd x=0:=fun x hx=>by rw[ms hx];exact h.kd.kc
 refine⟨((h.chip.set_ 166 _).set_ 167 _).set_' 169 _ _ ?_,h.stat.ext h.kd hE (fun x hx=>by have:=hT x hx;omega),h.mem.ext h.kd hE (fun x hx=>by have:=hT x hx;omega),h.que.ext h.kd hE (fun x hx=>by have:=hT x hx;omega),h.loops.ext hE (fun x hx=>by have:=hT x hx;omega),h.kd⟩
 apply Array.ext_getElem?
 intro j;have hs:(Ce m A S xs.length).size=170:=by simp[Ce]
 simp only[Array.getElem?_setIfInBounds,Array.size_setIfInBounds,hs,show(169:Nat)<170 by decide,show(167:Nat)<170 by decide,show(166:Nat)<170 by decide,if_true];by_cases hj:j<170
 ·rw[Dp _ _ _ _ hj,Dp _ _ _ _ hj];by_cases h9:169=j
  ·subst h9;rw[ijp rfl];rfl
  by_cases h7:167=j
  ·subst h7;rw[ijn (show ¬(169:Nat)=167 by decide),ijp rfl];rfl
  by_cases h6:166=j
  ·subst h6;rw[ijn (show ¬(169:Nat)=166 by decide),ijn (show ¬(167:Nat)=166 by decide),ijp rfl];rfl
  rw[ijn h9,ijn h7,ijn h6];refine congrArg some ?_
  by_cases h8:j<166
  ·exact Oe rfl rfl rfl rfl (fun _=>rfl) (fun _=>rfl) (fun hh=>by omega) (fun _=>rfl)
  ·have:j=168:=by omega
   subst this;rfl
 ·have h1:(Ce m A S xs.length)[j]? = none:=Array.getElem?_eq_none (by simp[Ce];omega);have h2:(Ce m A {S with fault:=some (p,k) } xs.length)[j]? = none:=Array.getElem?_eq_none (by simp[Ce];omega);rw[h1,h2,ijn (by omega),ijn (by omega),ijn (by omega)]
theorem Adg {w:World}{A:CA}{m:Mc}{xs:List Ins}{S:MS}(h:Ag w A m xs S)(hw:WfM m S)(hov:S.over=false)(hft:S.fault=none)(hl:xs.length<=100000)(xo xk xd xa xb xc xp xn xm:Int)(hx:xs[S.pc]? = some ⟨xo,xk,xd,xa,xb,xc,xp,xn,xm⟩)(hv:VI m ⟨xo,xk,xd,xa,xb,xc,xp,xn,xm⟩)(hkf:∀b,w.heap.size<=b->40<=A.kd b)(hok:OkS m xs S)(hce:Bh m 0 xs=0){c:Int}(hcb:Fi c S)(hcl:c<=500000000000)
  (hEF:∀(W:World) (B:CA) (T:MS),Ag W B m xs T->WfM m T->Cg m T (Ae m T ⟨xo,xk,xd,xa,xb,xc,xp,xn,xm⟩) (Ab m T ⟨xo,xk,xd,xa,xb,xc,xp,xn,xm⟩)=0->Calls prog 45 #[.pointer (some B.c),.agg #[xo,xk,xd,xa,xb,xc,xp,xn,xm]] W (Og B m xs (Jy m T ⟨xo,xk,xd,xa,xb,xc,xp,xn,xm⟩) W)) :
  Calls prog 17 #[.pointer (some A.c)] w (Afg A m xs (Gn m xs S ⟨xo,xk,xd,xa,xb,xc,xp,xn,xm⟩) w):=by
 have HH:=hd h;have q168:=h.cell (i:=168) (by omega) (v:=.bool false) (by show Value.bool S.over=_;rw[hov]);have q169:=h.cell (i:=169) (by omega) (v:=.bool false) (by show Value.bool S.fault.isSome=_;rw[hft];rfl);have ql:=h.lt;have hpcl:S.pc<xs.length:=(ils hx).1;obtain⟨cb,co,hcode,hcbl,hcx⟩:=h.stat.code.at hx;have HCD:=hd hcode;have HX0:=hd (hcx 0 _ rfl);have HX1:=hd (hcx 1 _ rfl);have HX2:=hd (hcx 2 _ rfl);have HX3:=hd (hcx 3 _ rfl);have HX4:=hd (hcx 4 _ rfl);have HX5:=hd (hcx 5 _ rfl);have HX6:=hd (hcx 6 _ rfl);have HX7:=hd (hcx 7 _ rfl);have HX8:=hd (hcx 8 _ rfl);have HV:=hd hv;have HW:=hd hw;have HKF:=hd hkf;have HEFF:=hd hEF;obtain⟨pc,hpc⟩:∃pc,pc=S.pc:=⟨_,rfl⟩;have HPC:=hd hpc;rw[<-hpc] at HX0 HX1 HX2 HX3 HX4 HX5 HX6 HX7 HX8 hpcl;have hpcI:((pc:Nat):Int)<xs.length:=by omega
 have HOK:=hd hok;have HCE:=hd hce;have HCYB:=hd hcb;have HXX:=hd hx;clear h hw hov hft hx hv hcode hcx hpc hkf hEF hok hce hcb;go_enter func17,ntmps17
 go_wp2_with fail
 clear q168 q169;refine rgH 11 [(10,sIx w.heap.size)] ?_ ?_
 ·exact Ah.cons sIx.stays Ah.nil
 simp only[TK]
 repeat(refine dE (fun wr nr hJ=>by(have hE:=hJ.1;have hC:=HH.o.nil hE;have q5:=hC.cell (i:=5) (by omega) (v:=.slice A.code xs.length A.ccap) rfl;rw[HCD.o] at q5;have q164:=hC.cell (i:=164) (by omega) (v:=S.pc) rfl;rw[<-HPC.o] at q164;have qcl:=hC.lt;have cbl:cb<wr.heap.size:=nl hcbl hE.size;have x0:=hE.held HX0.o (by simp);rw[Nat.add_zero] at x0;have x1:=hE.held HX1.o (by simp);have x2:=hE.held HX2.o (by simp);have x3:=hE.held HX3.o (by simp);have x4:=hE.held HX4.o (by simp);have x5:=hE.held HX5.o (by simp);have x6:=hE.held HX6.o (by simp);have x7:=hE.held HX7.o (by simp);have x8:=hE.held HX8.o (by simp);clear hC hE);clear hJ;exact CL) ?_;simp only[PT])
 refine Ct (sIx w.heap.size) rfl rfl ?_ ?_
 ·intro wr nr hJ hf;refine⟨wr.heap.size,.cells #[(0:Int),(0:Int),(0:Int),(0:Int),(0:Int),(0:Int),(0:Int),(0:Int),(0:Int)] 76,?_,Blk.new _ _ _,by have:=hJ.1.size;exact this⟩
  clear hJ hf;go_simp
  first|rfl|exact⟨rfl,rfl⟩
 intro (b3:Nat);simp only[PT];dsimp only[sIx];refine Aa (fun w2 hJ hF=>?_)
 have hf10:Blk w2 b3 76 #[(0:Int),(0:Int),(0:Int),(0:Int),(0:Int),(0:Int),(0:Int),(0:Int),(0:Int)]/\w.heap.size<=b3:=hF 10;have HB2:=hd hf10.1;have hb3:=hf10.2;have HE2:Hd (Ext [] w w2):=hd hJ.1;have hbc:=HB2.o.cell;have hbf:=HB2.o.frozen;have hbl:=HB2.o.lt;clear hF hJ hf10;have HB3:=hd (HB2.o.all9 (.int .i64 xo) (.int .i64 xk) (.int .i64 xd) (.int .i64 xa) (.int .i64 xb) (.int .i64 xc) (.int .i64 xp) (.int .i64 xn) (.int .i64 xm));have HE3:=hd (HE2.o.nine hb3 (.int .i64 xo) (.int .i64 xk) (.int .i64 xd) (.int .i64 xa) (.int .i64 xb) (.int .i64 xc) (.int .i64 xp) (.int .i64 xn) (.int .i64 xm));go_upto_region 4 with fail
 clear hbc hbf hbl;generalize ((((((((w2.setCell ⟨b3,0,none⟩ xo).setCell ⟨b3,1,none⟩ xk).setCell ⟨b3,2,none⟩ xd).setCell ⟨b3,3,none⟩ xa).setCell ⟨b3,4,none⟩ xb).setCell ⟨b3,5,none⟩ xc).setCell ⟨b3,6,none⟩ xp).setCell ⟨b3,7,none⟩ xn).setCell ⟨b3,8,none⟩ xm=w3 at *;have HC3:=hd (HH.o.nil HE3.o);have HP:=hd HV.o.p;go_upto_region 5 with fail
 go_cut [38] (fun s wx=>s=.bool (!Cr S ⟨xo,xk,xd,xa,xb,xc,xp,xn,xm⟩)/\Ext [] w3 wx)
 case first=>
  by_cases hp:xp=0
  ·subst hp;refine Am 13 (JE _) (Ext []) (Bw []) (by kernel_rfl) (by kernel_rfl) JE.less ?_ JE.start ?_
   ·exact Ah.nil
   simp only[TK]
   repeat(refine dE (fun wr nr hJ=>by(have qx:=HB3.o.ext hJ (by simp);have qxc:=qx.cell;have qxl:=qx.lt;clear qx);clear hJ;exact CL) ?_;simp only[PT])
   iterate 9
    refine Ee rfl ?_
    simp only[PT]
   refine Aa (fun w4 hJ hF=>?_)
   have HE4:=hd hJ;clear hF hJ;go_wp2_with fail
   go_meet
   exact⟨rfl,HE4.o⟩
  ·have hp2:0<=xp/\xp<=16:=HP.o;obtain⟨q,rfl⟩:∃q:Nat,xp=(q:Int)+1:=⟨(xp-1).toNat,by omega⟩;have hq16:q<16:=by omega
   have hqZ:((q:Nat):Int)<16:=by omega
   have hpz:((q:Int)+1==0)=false:=by simp;omega
   have HID:Hd (Cr S ⟨xo,xk,xd,xa,xb,xc,(q:Int)+1,xn,xm⟩=(S.r (q:Nat)==0)):=hd (by
    unfold Cr;dsimp only;rw[show((q:Int)+1 != 0)=true by simp;omega,show(q:Int)+1-1=q by omega,Bool.true_and])
   obtain⟨rv,hrv⟩:∃v,v=S.r (q:Nat):=⟨_,rfl⟩;have HRV:=hd hrv;rw[<-hrv] at HID;clear hrv hp2;by_cases hr0:rv=0
   ·have hne:(rv != 0)=false:=by simp[hr0]
    refine Am 13 (JE _) (Ext []) (Bw []) (by kernel_rfl) (by kernel_rfl) JE.less ?_ JE.start ?_
    ·exact Ah.nil
    simp only[TK]
    repeat(refine dE (fun wr nr hJ=>by(have qx:=HB3.o.ext hJ (by simp);have qxc:=qx.cell;have qxl:=qx.lt;clear qx;have qr:=(HC3.o.nil hJ).reg hq16;rw[<-HRV.o] at qr;have qcl:=(HC3.o.nil hJ).lt);clear hJ;exact CL) ?_;simp only[PT])
    refine Aa (fun w4 hJ hF=>?_)
    have HE4:=hd hJ;clear hF hJ;go_wp2_with fail
    go_meet
    exact⟨by rw[HID.o,hr0];rfl,HE4.o⟩
   ·have hne:(rv != 0)=true:=by simp[hr0]
    refine Am 13 (JE _) (Ext []) (Bw []) (by kernel_rfl) (by kernel_rfl) JE.less ?_ JE.start ?_
    ·exact Ah.nil
    simp only[TK]
    repeat(refine dE (fun wr nr hJ=>by(have qx:=HB3.o.ext hJ (by simp);have qxc:=qx.cell;have qxl:=qx.lt;clear qx;have qr:=(HC3.o.nil hJ).reg hq16;rw[<-HRV.o] at qr;have qcl:=(HC3.o.nil hJ).lt);clear hJ;exact CL) ?_;simp only[PT])
    refine Aa (fun w4 hJ hF=>?_)
    have HE4:=hd hJ;clear hF hJ;go_wp2_with fail
    go_meet
    exact⟨by rw[HID.o];simp[hr0],HE4.o⟩
 case rest=>
  obtain⟨rfl,hE4⟩:=hcut;have HE4:=hd (HE3.o.trans hE4);have HB4:=hd (HB3.o.ext hE4 (by simp));have HC4:=hd (HH.o.nil HE4.o);clear hE4;obtain⟨id,hid⟩:∃b,b=Cr S ⟨xo,xk,xd,xa,xb,xc,xp,xn,xm⟩:=⟨_,rfl⟩;rw[<-hid];have HID:=hd hid;clear hid;obtain⟨S0,hS0⟩:∃S0,S0=(if xo=18 then S.wait xd else S):=⟨_,rfl⟩;have HS0:=hd hS0;clear hS0;obtain⟨S1,hS1⟩:∃S1,S1=(if id then S0 else Jy m S0 ⟨xo,xk,xd,xa,xb,xc,xp,xn,xm⟩):=⟨_,rfl⟩;have HS1:=hd hS1;clear hS1;go_upto_if 38 with fail
  go_cut [] (fun wx=>Agn A m xs S1 w b3 #[xo,xk,xd,xa,xb,xc,xp,xn,xm] (id=true\/Cg m S0 (Ae m S0 ⟨xo,xk,xd,xa,xb,xc,xp,xn,xm⟩) (Ab m S0 ⟨xo,xk,xd,xa,xb,xc,xp,xn,xm⟩)=0) wx)
  case first=>
   cases id
   ·have HKB:=hd (HKF.o b3 hb3);by_cases h18:xo=18
    ·have hdv:=HV.o.d;have hdq:=HV.o.q (.inl (show(Ins.mk xo xk xd xa xb xc xp xn xm).op=18 from h18));dsimp only at hdv hdq;obtain⟨d,rfl⟩:∃n:Nat,xd=n:=⟨xd.toNat,by omega⟩;have hs0:S0=S.wait (d:Nat):=by rw[HS0.o,ijp h18]
     have HS0':=hd hs0;have hs1:S1=Jy m (S.wait (d:Nat)) ⟨xo,xk,d,xa,xb,xc,xp,xn,xm⟩:=by rw[HS1.o,hs0];rfl
     have HS1':=hd hs1;have h18b:(xo==18)=true:=by simpa using h18
     have HWT:=hd (Rg HC4.o HW.o d (by omega));have HPW:=hd (MS.wait_pc S (d:Nat));have HWW:=hd (HW.o.wait (d:Nat))
     have HIDW:Hd (Cr (S.wait (d:Nat)) ⟨xo,xk,d,xa,xb,xc,xp,xn,xm⟩=Cr S ⟨xo,xk,d,xa,xb,xc,xp,xn,xm⟩):=hd (by
      have hr:(S.wait (d:Nat)).r=S.r:=by unfold MS.wait;split<;>rfl
      unfold Cr;rw[hr])
     clear hs0 hs1 h18 hdv hdq;have qxc:=HB4.o.cell;have qxl:=HB4.o.lt;go_wp2_with fail
     refine HWT.o.mono ?_
     rintro e w5 ⟨rfl,hE5,hC5⟩;have HC5:=hd hC5;have HE5:=hd ((Aj.of (A:=A) HE4.o (by simp)).trans hE5);have HB5:=hd (HB4.o.extC hE5 HKB.o);clear hE5 hC5 qxc qxl;have qxc:=HB5.o.cell;have qxl:=HB5.o.lt;go_wp2_with fail
     refine(Rf HC5.o HWW.o xo xk d xa xb xc xp xn xm HV.o).mono ?_
     rintro e w6 ⟨rfl,hE6⟩;have HC6:=hd (HC5.o.nil hE6);have HE6:=hd (HE5.o.trans (Aj.of (A:=A) hE6 (by simp)));have HB6:=hd (HB5.o.ext hE6 (by simp));clear hE6 qxc qxl;obtain⟨bv,hbv⟩:∃b,b=Cg m (S.wait (d:Nat)) (Ae m (S.wait (d:Nat)) ⟨xo,xk,d,xa,xb,xc,xp,xn,xm⟩) (Ab m (S.wait (d:Nat)) ⟨xo,xk,d,xa,xb,xc,xp,xn,xm⟩):=⟨_,rfl⟩;rw[<-hbv];have HBV:=hd hbv;clear hbv;have qxc:=HB6.o.cell;have qxl:=HB6.o.lt;by_cases hb0:bv=0
     ·subst hb0;go_wp2_with fail
      refine(HEFF.o _ _ _ HC6.o HWW.o HBV.o.symm).mono ?_
      rintro e w7 ⟨rfl,A1,hE7,hC7,hc7,hk7⟩;have HBAD:=HBV.o.symm;rw[<-HS0'.out] at HBAD;replace HBAD:=hd HBAD;have HG7:=hd (show AtP A m xs S1 w b3 _ w7 from⟨A1,HE6.o.trans hE7,by rw[HS1'.out];exact hC7,hc7,fun b hb=>hk7 b (nl hb HE6.o.size),by rw[hk7 b3 HB6.o.lt];exact HKB.o,HB6.o.extC hE7 HKB.o⟩);clear hE7 hC7 hc7 hk7 qxc qxl;go_wp2_with fail
      go_meet
      exact⟨by first|exact .inr HBAD.o|exact HBAD.o|simpa using HBAD.o,HG7.o⟩
     ·have hbn:(bv != 0)=true:=by simp[hb0]
      have HSX:Hd (Gn m xs S ⟨xo,xk,d,xa,xb,xc,xp,xn,xm⟩=(false,{S.wait (d:Nat) with fault:=some (pc,bv) })):=hd (by
       unfold Gn;dsimp only;rw[ijp (show xo=18 by simpa using h18b),ijp ⟨by rw[HIDW.o];exact HID.o.symm,by rw[<-HBV.o];exact hb0⟩,<-HBV.o,<-HPC.o])
      have q164:=HC6.o.cell (i:=164) (by omega) (v:=.int .i64 (S.wait (d:Nat)).pc) rfl;rw[HPW.o.1,<-HPC.o] at q164;have qcc:=HC6.o.chip.cell;have q6:=HC6.o.cell (i:=166) (by omega) rfl;have q7:=HC6.o.cell (i:=167) (by omega) rfl;have q9:=HC6.o.cell (i:=169) (by omega) rfl;have qf:=HC6.o.chip.frozen;have qcl:=HC6.o.lt;clear qcc;have HC7:=hd (HC6.o.setFault pc bv);have HE7:=hd (Aj.own HH.o (Aj.own HH.o (Aj.own HH.o HE6.o 166 (.int .i64 pc)) 167 (.int .i64 bv)) 169 (.bool true));go_wp2_with fail
      go_ret
      exact⟨by rw[HSX.o];rfl,by rw[HSX.o];exact Oh.of HE7.o HC7.o⟩
    ·have hs0:S0=S:=by rw[HS0.o,ijn h18]
     have hs1:S1=Jy m S ⟨xo,xk,xd,xa,xb,xc,xp,xn,xm⟩:=by rw[HS1.o,hs0];rfl
     have HS1':=hd hs1;have HS0':=hd hs0;have h18b:(xo==18)=false:=by simpa using h18
     clear hs0 hs1 h18;have qxc:=HB4.o.cell;have qxl:=HB4.o.lt;go_wp2_with fail
     refine(Rf HC4.o HW.o xo xk xd xa xb xc xp xn xm HV.o).mono ?_
     rintro e w6 ⟨rfl,hE6⟩;have HC6:=hd (HC4.o.nil hE6);have HE6:=hd (HE4.o.trans hE6);have HB6:=hd (HB4.o.ext hE6 (by simp));clear hE6 qxc qxl;obtain⟨bv,hbv⟩:∃b,b=Cg m S (Ae m S ⟨xo,xk,xd,xa,xb,xc,xp,xn,xm⟩) (Ab m S ⟨xo,xk,xd,xa,xb,xc,xp,xn,xm⟩):=⟨_,rfl⟩;rw[<-hbv];have HBV:=hd hbv;clear hbv;have qxc:=HB6.o.cell;have qxl:=HB6.o.lt;by_cases hb0:bv=0
     ·subst hb0;go_wp2_with fail
      refine(HEFF.o _ _ _ HC6.o HW.o HBV.o.symm).mono ?_
      rintro e w7 ⟨rfl,A1,hE7,hC7,hc7,hk7⟩;have HBAD:=HBV.o.symm;rw[<-HS0'.out] at HBAD;replace HBAD:=hd HBAD;have HG7:=hd (show AtP A m xs S1 w b3 _ w7 from⟨A1,(Aj.of (A:=A) HE6.o (by simp)).trans hE7,by rw[HS1'.out];exact hC7,hc7,fun b hb=>hk7 b (nl hb HE6.o.size),by rw[hk7 b3 HB6.o.lt];exact HKB.o,HB6.o.extC hE7 HKB.o⟩);clear hE7 hC7 hc7 hk7 qxc qxl;go_wp2_with fail
      go_meet
      exact⟨by first|exact .inr HBAD.o|exact HBAD.o|simpa using HBAD.o,HG7.o⟩
     ·have hbn:(bv != 0)=true:=by simp[hb0]
      have HSX:Hd (Gn m xs S ⟨xo,xk,xd,xa,xb,xc,xp,xn,xm⟩=(false,{S with fault:=some (pc,bv) })):=hd (by
       unfold Gn;dsimp only;rw[ijn (show ¬xo=18 by simpa using h18b),ijp ⟨HID.o.symm,by rw[<-HBV.o];exact hb0⟩,<-HBV.o,<-HPC.o])
      have q164:=HC6.o.cell (i:=164) (by omega) (v:=S.pc) rfl;rw[<-HPC.o] at q164;have qcc:=HC6.o.chip.cell;have q6:=HC6.o.cell (i:=166) (by omega) rfl;have q7:=HC6.o.cell (i:=167) (by omega) rfl;have q9:=HC6.o.cell (i:=169) (by omega) rfl;have qf:=HC6.o.chip.frozen;have qcl:=HC6.o.lt;clear qcc;have HC7:=hd (HC6.o.setFault pc bv);have HE7:=hd (Aj.own HH.o (Aj.own HH.o (Aj.own HH.o (Aj.of (A:=A) HE6.o (by simp)) 166 (.int .i64 pc)) 167 (.int .i64 bv)) 169 (.bool true));go_wp2_with fail
      go_ret
      exact⟨by rw[HSX.o];rfl,by rw[HSX.o];exact Oh.of HE7.o HC7.o⟩
   ·have hn18:xo≠18:=fun h18=>by
     have h1:=HV.o.pp;have h2:=HID.o;unfold Cr at h2;dsimp only at h1 h2;by_cases hp:xp=0
     ·subst hp;simp at h2
     ·have:=h1 hp;omega
    have hs0:S0=S:=by rw[HS0.o,ijn hn18]
    have hs1:S1=S:=by rw[HS1.o,hs0];rfl
    go_wp2_with fail
    go_meet
    exact⟨.inl (by trivial),A,Aj.of (A:=A) HE4.o (by simp),by rw[hs1];exact HC4.o,rfl,fun _ _=>rfl,HKF.o b3 hb3,HB4.o⟩
  case rest=>
   obtain⟨hbd,B,hEB,hCB,hcB,hkB,hk3,hB3⟩:=hcut;rename World=>wc
   have HEB:=hd hEB;have HCB:=hd hCB;have HcB:=hd hcB;have HkB:=hd hkB;have HKB3:=hd hk3;have HB5:=hd hB3;have hS0:S0=Br S ⟨xo,xk,xd,xa,xb,xc,xp,xn,xm⟩:=HS0.o
   have hid:id=Cr (Br S ⟨xo,xk,xd,xa,xb,xc,xp,xn,xm⟩) ⟨xo,xk,xd,xa,xb,xc,xp,xn,xm⟩:=by
    have hr:(Br S ⟨xo,xk,xd,xa,xb,xc,xp,xn,xm⟩).r=S.r:=by unfold Br;split;exact(MS.wait_pc S xd).2.2.2.2;rfl
    rw[HID.o];unfold Cr;rw[hr]
   rw[hid,hS0] at hbd;have HSX:=hd (He (xs:=xs) hbd);have HM1:=hd (Kj HCB.o.kd.ok HOK.o HV.o hbd HCYB.o);have HM2:=hd (Kk HCB.o.kd.ok HM1.o);have HM3:=hd (Kl HM2.o)
   have hS1:S1.cyc=(La m S ⟨xo,xk,xd,xa,xb,xc,xp,xn,xm⟩).cyc/\S1.pc=S.pc/\(xo≠18->S1=La m S ⟨xo,xk,xd,xa,xb,xc,xp,xn,xm⟩)/\(xo=18->La m S ⟨xo,xk,xd,xa,xb,xc,xp,xn,xm⟩=Az m (Br S ⟨xo,xk,xd,xa,xb,xc,xp,xn,xm⟩) ⟨xo,xk,xd,xa,xb,xc,xp,xn,xm⟩/\S1=Jy m (Br S ⟨xo,xk,xd,xa,xb,xc,xp,xn,xm⟩) ⟨xo,xk,xd,xa,xb,xc,xp,xn,xm⟩):=by
    have h1:S1=(if id then Br S ⟨xo,xk,xd,xa,xb,xc,xp,xn,xm⟩ else Jy m (Br S ⟨xo,xk,xd,xa,xb,xc,xp,xn,xm⟩) ⟨xo,xk,xd,xa,xb,xc,xp,xn,xm⟩):=by rw[HS1.o,hS0]
    by_cases h18:xo=18
    ·have hi:id=false:=by
      cases hc:id with
      | false=>rfl
      | true=>
       have h1:=HV.o.pp;have h2:=HID.o;rw[hc] at h2;unfold Cr at h2;dsimp only at h1 h2;by_cases hp:xp=0
       ·subst hp;simp at h2
       ·have:=h1 hp;omega
     have h2:La m S ⟨xo,xk,xd,xa,xb,xc,xp,xn,xm⟩=Az m (Br S ⟨xo,xk,xd,xa,xb,xc,xp,xn,xm⟩) ⟨xo,xk,xd,xa,xb,xc,xp,xn,xm⟩:=by unfold La;rw[ijn (by rw[<-hid,hi];decide)]
     have h3:S1=Jy m (Br S ⟨xo,xk,xd,xa,xb,xc,xp,xn,xm⟩) ⟨xo,xk,xd,xa,xb,xc,xp,xn,xm⟩:=by rw[h1,hi];rfl
     have h4:(Jy m (Br S ⟨xo,xk,xd,xa,xb,xc,xp,xn,xm⟩) ⟨xo,xk,xd,xa,xb,xc,xp,xn,xm⟩).cyc=(Br S ⟨xo,xk,xd,xa,xb,xc,xp,xn,xm⟩).cyc:=by unfold Jy;rw[ijp h18]
     have h5:(Jy m (Br S ⟨xo,xk,xd,xa,xb,xc,xp,xn,xm⟩) ⟨xo,xk,xd,xa,xb,xc,xp,xn,xm⟩).pc=(Br S ⟨xo,xk,xd,xa,xb,xc,xp,xn,xm⟩).pc:=by unfold Jy;rw[ijp h18]
     refine⟨by rw[h3,h4,h2,(Uz m (Br S ⟨xo,xk,xd,xa,xb,xc,xp,xn,xm⟩) ⟨xo,xk,xd,xa,xb,xc,xp,xn,xm⟩).2.2.2.2],by rw[h3,h5];exact(Hb HOK.o _ HCYB.o).2.1,fun hn=>absurd h18 hn,fun _=>⟨h2,h3⟩⟩
    ·have h2:S1=La m S ⟨xo,xk,xd,xa,xb,xc,xp,xn,xm⟩:=by
      rw[h1,Eu h18];unfold La;rw[<-hid]
     refine⟨by rw[h2],by rw[h2];exact HM1.o.pc,fun _=>h2,fun hh=>absurd hh h18⟩
   have HSS:=hd hS1;have hcy:=HM1.o.cyc.1;have hcy2:=HM1.o.cyc.2.1;rw[<-hS1.1] at hcy hcy2;clear hEB hCB hcB hkB hk3 hB3 hS0 hid hbd hS1;obtain⟨cy,hcye⟩:∃v,v=S1.cyc:=⟨_,rfl⟩;have HCY:=hd hcye;rw[<-hcye] at hcy hcy2;clear hcye;have hpr:=Fh (lanes:=m.lanes) (by have:=Bc HCB.o.kd.ok;omega) ⟨xo,xk,xd,xa,xb,xc,xp,xn,xm⟩;obtain⟨pr,hpre⟩:∃v,v=Bx m.lanes ⟨xo,xk,xd,xa,xb,xc,xp,xn,xm⟩:=⟨_,rfl⟩;have HPR:=hd hpre;rw[<-hpre] at hpr;clear hpre;obtain⟨hpr0,hpr1⟩:=hpr;rw[<-HcB.o];go_wp2_with fail
   refine rgE 10 [(9,Bv (.int .i64 pr))] ?_
   simp only[TK]
   repeat(refine dE (fun wr nr hJ=>by(have hC:=HCB.o.nil hJ;have qcl:=hC.lt;have q165:=hC.cell (i:=165) (by omega) (v:=S1.cyc) rfl;rw[<-HCY.o] at q165;have q0:=hC.cell (i:=0) (by omega) (v:=m.main) rfl;have q1:=hC.cell (i:=1) (by omega) (v:=m.banks) rfl;have q2:=hC.cell (i:=2) (by omega) (v:=m.bank) rfl;have q3:=hC.cell (i:=3) (by omega) (v:=m.lanes) rfl;have q4:=hC.cell (i:=4) (by omega) (v:=m.queues) rfl;have qx:=HB5.o.ext hJ (by simp);have qxc:=qx.cell;have qxl:=qx.lt;clear qx hC);clear hJ;exact CL) ?_;simp only[PT])
   refine Bj rfl rfl ?_ ?_
   ·apply Exists.intro
    apply Exists.intro
    refine⟨fun wr=>?_,fun wr nr hJ=>?_⟩
    ·go_simp
     first|exact⟨rfl,rfl⟩|rfl
    ·exact(by have h1:=Acn m ⟨xo,xk,xd,xa,xb,xc,xp,xn,xm⟩ wr (by have:=HV.o.op;exact this);rw[<-HPR.o] at h1;exact h1)
   simp only[PT];refine Aa (fun w5 hJ hF=>?_)
   have HC5:=hd (HCB.o.nil hJ);have HE5:=hd (Aj.of (A:=B) hJ (by simp));have HB6:=hd (HB5.o.ext hJ (by simp));have q165:=HC5.o.cell (i:=165) (by omega) rfl;have qf:=HC5.o.chip.frozen 165;have ql5:=HC5.o.lt;have HC6:=hd (HC5.o.setCyc (cy+pr));have HE6:=hd (Aj.own HCB.o HE5.o 165 (.int .i64 (cy+pr)));have hb3c:b3≠B.c:=fun e=>by have h1:=HKB3.o;rw[e,HC5.o.kd.kc] at h1;omega
   have HB7:=hd (HB6.o.far (p:=⟨B.c,165,none⟩) hb3c (.int .i64 (cy+pr)));clear hF hJ;go_upto_region 13 with fail
   generalize w5.setCell ⟨B.c,165,none⟩ (.int .i64 (cy+pr))=w6 at *;clear q165 qf ql5 hb3c;have qxc:=HB7.o.cell;have qxl:=HB7.o.lt;by_cases h18:xo=18
   ·have h18b:(xo==18)=true:=by simpa using h18
    obtain⟨HR1,HR2⟩:=HSS.o.2.2.2 h18;have hdv:=HV.o.d;have hdq:=HV.o.q (.inl (show(Ins.mk xo xk xd xa xb xc xp xn xm).op=18 from h18));have hks:=HV.o.ks h18;dsimp only at hdv hdq hks;have hmb:=Bc HC6.o.kd.ok;obtain⟨d,rfl⟩:∃n:Nat,xd=n:=⟨xd.toNat,by omega⟩;have hdq2:d<m.queues.toNat:=by omega
    obtain⟨Q,hQ⟩:∃Q,m.queues.toNat=Q:=⟨_,rfl⟩;have hdI:((d:Nat):Int)<(Q:Nat):=by omega
    have HQ:=hd hQ;have hxm0:0<=xm:=by omega
    have hxm1:xm<=4096:=by omega
    obtain⟨t0,ht0⟩:∃t0,t0=Tr.mk ((Ae m (Br S ⟨xo,xk,d,xa,xb,xc,xp,xn,xm⟩) ⟨xo,xk,d,xa,xb,xc,xp,xn,xm⟩).getD 0 ⟨0,0,0⟩) ((Ab m (Br S ⟨xo,xk,d,xa,xb,xc,xp,xn,xm⟩) ⟨xo,xk,d,xa,xb,xc,xp,xn,xm⟩).getD 0 ⟨0,0,0⟩) ((Br S ⟨xo,xk,d,xa,xb,xc,xp,xn,xm⟩).words ((Ae m (Br S ⟨xo,xk,d,xa,xb,xc,xp,xn,xm⟩) ⟨xo,xk,d,xa,xb,xc,xp,xn,xm⟩).getD 0 ⟨0,0,0⟩)) 0:=⟨_,rfl⟩;have hq1:S1={Br S ⟨xo,xk,d,xa,xb,xc,xp,xn,xm⟩ with q:=Be (Br S ⟨xo,xk,d,xa,xb,xc,xp,xn,xm⟩).q (d:Nat) (some t0) }:=by rw[HR2,ht0];unfold Jy;rw[ijp h18]
    have hq2:({S1 with cyc:=cy+pr }:MS).q (d:Nat)=some t0:=by rw[hq1];exact Bt _ _ _
    have HQ2:=hd hq2
    have hst:({({S1 with cyc:=cy+pr }:MS) with q:=Be ({S1 with cyc:=cy+pr }:MS).q (d:Nat) (some {t0 with ready:=cy+pr+8+xm }) }:MS)=Iq m S ⟨xo,xk,d,xa,xb,xc,xp,xn,xm⟩:=by
     have e1:La m S ⟨xo,xk,d,xa,xb,xc,xp,xn,xm⟩={Br S ⟨xo,xk,d,xa,xb,xc,xp,xn,xm⟩ with q:=Be (Br S ⟨xo,xk,d,xa,xb,xc,xp,xn,xm⟩).q (d:Nat) (some {t0 with ready:=(Br S ⟨xo,xk,d,xa,xb,xc,xp,xn,xm⟩).cyc+Bx m.lanes ⟨xo,xk,d,xa,xb,xc,xp,xn,xm⟩+8+xm }) }:=by
      rw[HR1,ht0];simp[Az,h18]
     have e2:cy=(Br S ⟨xo,xk,d,xa,xb,xc,xp,xn,xm⟩).cyc:=by rw[HCY.o,hq1]
     unfold Iq;rw[e1,HPR.o,e2,hq1];dsimp only;rw[Adf]
    have HST:=hd hst;have hS3:Ev m S ⟨xo,xk,d,xa,xb,xc,xp,xn,xm⟩=Iq m S ⟨xo,xk,d,xa,xb,xc,xp,xn,xm⟩:=by unfold Ev;rw[ijn (show ¬xo=19 by omega)]
    rw[<-hS3] at hst;have HST:=hd hst;have h3b:(xo==3)=false:=by rw[h18];rfl
    have h4b:(xo==4)=false:=by rw[h18];rfl
    have h19b:(xo==19)=false:=by rw[h18];rfl
    clear hQ HR1 HR2 hdv hdq hks hmb hq1 hq2 hst hS3 ht0 h18;have HDQ:=hd hdq2;clear hdq2;go_wp2_with fail
    clear qxc qxl;refine rgE 16 [] ?_
    simp only[TK]
    repeat(refine dE (fun wr nr hJ=>by(have hC:=HC6.o.nil hJ;have qcl:=hC.lt;have q162:=hC.cell (i:=162) (by omega) (v:=.slice (some B.qb) m.queues.toNat m.queues.toNat) rfl;rw[HQ.o] at q162;have q165:=hC.cell (i:=165) (by omega) (v:=.int .i64 (cy+pr)) rfl;have qqc:=hC.qcell d HDQ.o HQ2.o;have qx:=HB7.o.ext hJ (by simp);have qxc:=qx.cell;have qxl:=qx.lt;clear qx hC);clear hJ;exact CL) ?_;simp only[PT])
    refine Aa (fun w7 hJ hF=>?_)
    have HC8:=hd (HC6.o.nil hJ);have HE8:=hd (HE6.o.trans (Aj.of (A:=B) hJ (by simp)));have HB8:=hd (HB7.o.ext hJ (by simp));obtain⟨t1,t2,t3,t4⟩:=HC8.o.que.trs d HDQ.o t0 HQ2.o;have HT3:=hd t3;have t1c:=t1.cell 7;have t1f:=t1.frozen 7;have t1l:=t1.lt;clear t1 t2 t3 t4 hF hJ;have HC9:=hd (HC8.o.setReady d HDQ.o HQ2.o (cy+pr+8+xm));have hc9:=HC9.o;rw[HST.o] at hc9;replace HC9:=hd hc9;clear hc9;have HE9:=hd (HE8.o.trans (Aj.of (A:=B) (T:=[B.tb d]) (er.setCell (p:=⟨B.tb d,7,none⟩) (.inl (by simp)) (.int .i64 (cy+pr+8+xm))) (fun x hx=>by rw[ms hx,HT3.o];have:=HC8.o.kd.small;have:=HDQ.o;omega)))
    have HFL:Hd (De xs (Ev m S ⟨xo,xk,d,xa,xb,xc,xp,xn,xm⟩) ⟨xo,xk,d,xa,xb,xc,xp,xn,xm⟩={Ev m S ⟨xo,xk,d,xa,xb,xc,xp,xn,xm⟩ with pc:=pc+1 }):=hd (by
     have h1:=HM3.o.pc;rw[<-HPC.o] at h1;unfold De;rw[ijn (by simpa using h3b),ijn (by simpa using h4b),h1])
    have q164:=HC9.o.cell (i:=164) (by omega) (v:=.int .i64 (Ev m S ⟨xo,xk,d,xa,xb,xc,xp,xn,xm⟩).pc) rfl;rw[HM3.o.pc,<-HPC.o] at q164;have ql9:=HC9.o.lt;have HN:=hd (Gi HC9.o HM3.o.wf (pc+1) (by omega) hl);go_wp2_with fail
    rw[show((pc:Nat):Int)+1=((pc+1:Nat):Int) from by omega];refine HN.o.mono ?_
    rintro e w10 ⟨rfl,hE10,hC10⟩;have HE10:=hd (HEB.o.re (HE9.o.trans hE10) HkB.o);have HC10:=hd hC10;clear hE10 hC10 q164 ql9;go_wp2_with fail
    go_ret
    exact⟨by rw[HSX.o];rfl,by rw[HSX.o];exact⟨B,HE10.o,by rw[HFL.o];exact HC10.o,HcB.o,HkB.o⟩⟩
   ·have h18b:(xo==18)=false:=by simpa using h18
    have hS1:=HSS.o.2.2.1 h18;have h2:{S1 with cyc:=cy+pr }=Iq m S ⟨xo,xk,xd,xa,xb,xc,xp,xn,xm⟩:=by unfold Iq;rw[HCY.o,HPR.o,<-hS1]
    have HC7:=HC6.o;rw[h2] at HC7;replace HC7:=hd HC7;clear hS1 h2 h18;by_cases h19:xo=19
    ·have h19b:(xo==19)=true:=by simpa using h19
     have hdv:=HV.o.d;have hdq:=HV.o.q (.inr (show(Ins.mk xo xk xd xa xb xc xp xn xm).op=19 from h19));dsimp only at hdv hdq;obtain⟨d,rfl⟩:∃n:Nat,xd=n:=⟨xd.toNat,by omega⟩;have hS3:Ev m S ⟨xo,xk,d,xa,xb,xc,xp,xn,xm⟩=(Iq m S ⟨xo,xk,d,xa,xb,xc,xp,xn,xm⟩).wait (d:Nat):=by unfold Ev;rw[ijp h19]
     have HWT:=Rg HC7.o HM2.o.wf d (by omega);rw[<-hS3] at HWT;replace HWT:=hd HWT;have h3b:(xo==3)=false:=by rw[h19];rfl
     have h4b:(xo==4)=false:=by rw[h19];rfl
     clear hdv hdq hS3 h19;have q7:=HC7.o.lt;go_wp2_with fail
     clear qxc qxl q7;refine HWT.o.mono ?_
     rintro e w8 ⟨rfl,hE8,hC8⟩;have HC9:=hd hC8;have HE9:=hd (HE6.o.trans hE8);clear hE8 hC8
     have HFL:Hd (De xs (Ev m S ⟨xo,xk,d,xa,xb,xc,xp,xn,xm⟩) ⟨xo,xk,d,xa,xb,xc,xp,xn,xm⟩={Ev m S ⟨xo,xk,d,xa,xb,xc,xp,xn,xm⟩ with pc:=pc+1 }):=hd (by
      have h1:=HM3.o.pc;rw[<-HPC.o] at h1;unfold De;rw[ijn (by simpa using h3b),ijn (by simpa using h4b),h1])
     have q164:=HC9.o.cell (i:=164) (by omega) (v:=.int .i64 (Ev m S ⟨xo,xk,d,xa,xb,xc,xp,xn,xm⟩).pc) rfl;rw[HM3.o.pc,<-HPC.o] at q164;have ql9:=HC9.o.lt;have HN:=hd (Gi HC9.o HM3.o.wf (pc+1) (by omega) hl);go_wp2_with fail
     rw[show((pc:Nat):Int)+1=((pc+1:Nat):Int) from by omega];refine HN.o.mono ?_
     rintro e w10 ⟨rfl,hE10,hC10⟩;have HE10:=hd (HEB.o.re (HE9.o.trans hE10) HkB.o);have HC10:=hd hC10;clear hE10 hC10 q164 ql9;go_wp2_with fail
     go_ret
     exact⟨by rw[HSX.o];rfl,by rw[HSX.o];exact⟨B,HE10.o,by rw[HFL.o];exact HC10.o,HcB.o,HkB.o⟩⟩
    ·have h19b:(xo==19)=false:=by simpa using h19
     have hS3:Ev m S ⟨xo,xk,xd,xa,xb,xc,xp,xn,xm⟩=Iq m S ⟨xo,xk,xd,xa,xb,xc,xp,xn,xm⟩:=by unfold Ev;rw[ijn h19]
     have hc9:=HC7.o;rw[<-hS3] at hc9;have HC9:=hd hc9;have HE9:=HE6;clear hS3 h19 hc9;by_cases h34:xo=3\/xo=4
     ·have HFW:=hd (Aff HC9.o HM3.o.wf HCE.o (by rw[HM3.o.turns,HM3.o.pc];exact HOK.o.stack) hl (by have h1:=HM3.o.cyc.1;have h2:=HM3.o.cyc.2.1;omega) xo xk xd xa xb xc xp xn xm (by rw[HM3.o.pc];exact HXX.o) h34);have ql9:=HC9.o.lt;rcases h34 with h3|h4
      ·have h3b:(xo==3)=true:=by simpa using h3
       clear h3;go_wp2_with fail
       refine HFW.o.mono ?_
       rintro e w10 ⟨rfl,B',hE10,hC10,hc10,hk10⟩;have HF:=hd (show Oh A m xs (Fq m xs (De xs (Ev m S ⟨xo,xk,xd,xa,xb,xc,xp,xn,xm⟩) ⟨xo,xk,xd,xa,xb,xc,xp,xn,xm⟩)) w w10 from⟨B',HEB.o.re (HE9.o.trans hE10) HkB.o,hC10,hc10.trans HcB.o,fun b hb=>(hk10 b (nl hb (nt HEB.o.size HE9.o.size))).trans (HkB.o b hb)⟩);clear hE10 hC10 hc10 hk10;go_wp2_with fail
       go_ret
       exact⟨by rw[HSX.o];rfl,by rw[HSX.o];exact HF.o⟩
      ·have h3b:(xo==3)=false:=by rw[h4];rfl
       have h4b:(xo==4)=true:=by simpa using h4
       clear h4;go_wp2_with fail
       refine HFW.o.mono ?_
       rintro e w10 ⟨rfl,B',hE10,hC10,hc10,hk10⟩;have HF:=hd (show Oh A m xs (Fq m xs (De xs (Ev m S ⟨xo,xk,xd,xa,xb,xc,xp,xn,xm⟩) ⟨xo,xk,xd,xa,xb,xc,xp,xn,xm⟩)) w w10 from⟨B',HEB.o.re (HE9.o.trans hE10) HkB.o,hC10,hc10.trans HcB.o,fun b hb=>(hk10 b (nl hb (nt HEB.o.size HE9.o.size))).trans (HkB.o b hb)⟩);clear hE10 hC10 hc10 hk10;go_wp2_with fail
       go_ret
       exact⟨by rw[HSX.o];rfl,by rw[HSX.o];exact HF.o⟩
     ·have h3b:(xo==3)=false:=by simp;omega
      have h4b:(xo==4)=false:=by simp;omega
      have HFL:Hd (De xs (Ev m S ⟨xo,xk,xd,xa,xb,xc,xp,xn,xm⟩) ⟨xo,xk,xd,xa,xb,xc,xp,xn,xm⟩={Ev m S ⟨xo,xk,xd,xa,xb,xc,xp,xn,xm⟩ with pc:=pc+1 }):=hd (by
       have h1:=HM3.o.pc;rw[<-HPC.o] at h1;unfold De;rw[ijn (by simpa using h3b),ijn (by simpa using h4b),h1])
      have q164:=HC9.o.cell (i:=164) (by omega) (v:=.int .i64 (Ev m S ⟨xo,xk,xd,xa,xb,xc,xp,xn,xm⟩).pc) rfl;rw[HM3.o.pc,<-HPC.o] at q164;have ql9:=HC9.o.lt;have HN:=hd (Gi HC9.o HM3.o.wf (pc+1) (by omega) hl);go_wp2_with fail
      rw[show((pc:Nat):Int)+1=((pc+1:Nat):Int) from by omega];refine HN.o.mono ?_
      rintro e w10 ⟨rfl,hE10,hC10⟩;have HE10:=hd (HEB.o.re (HE9.o.trans hE10) HkB.o);have HC10:=hd hC10;clear hE10 hC10 q164 ql9;go_wp2_with fail
      go_ret
      exact⟨by rw[HSX.o];rfl,by rw[HSX.o];exact⟨B,HE10.o,by rw[HFL.o];exact HC10.o,HcB.o,HkB.o⟩⟩
end Go.Proofs.YtkgmhggliifkjaaGreat
