import Derived.Test.YtkgmhggliifkjaaGreatP40
namespace Go.Proofs.YtkgmhggliifkjaaGreat
open Go.RowKit Go.Proofs.Tryz
set_option linter.all false
set_option maxHeartbeats 8000000
set_option maxRecDepth 100000
attribute [local irreducible] Ax
theorem Yo {w:World}{R:RA}{m:Mc}{xs:List Ins}{S:MS}(h:Ak w R m xs S)(hov:S.over=false)(hft:S.fault=none)(hl:xs.length<=100000)(xo xk xd xa xb xc xp xn xm:Int)(hx:xs[S.pc]? = some ⟨xo,xk,xd,xa,xb,xc,xp,xn,xm⟩)(hv:VI m ⟨xo,xk,xd,xa,xb,xc,xp,xn,xm⟩)(hbf:¬(Cr (Br S ⟨xo,xk,xd,xa,xb,xc,xp,xn,xm⟩) ⟨xo,xk,xd,xa,xb,xc,xp,xn,xm⟩=true\/Cg m (Br S ⟨xo,xk,xd,xa,xb,xc,xp,xn,xm⟩) (Ae m (Br S ⟨xo,xk,xd,xa,xb,xc,xp,xn,xm⟩) ⟨xo,xk,xd,xa,xb,xc,xp,xn,xm⟩) (Ab m (Br S ⟨xo,xk,xd,xa,xb,xc,xp,xn,xm⟩) ⟨xo,xk,xd,xa,xb,xc,xp,xn,xm⟩)=0))(hkf:∀b,w.heap.size<=b->40<=R.A.kd b)(hok:OkS m xs S)(hce:Bh m 0 xs=0){c:Int}(hcb:Fi c S)(hcl:c<=500000000000) :
  Calls prog 18 #[.pointer (some R.A.c)] w (Pu R m xs (Gn m xs S ⟨xo,xk,xd,xa,xb,xc,xp,xn,xm⟩) w):=by
 have HH:=hd h;have q40:=h.cell (i:=40) (by omega) (v:=.bool false) (by show Value.bool S.over=_;rw[hov]);have q39:=h.cell (i:=39) (by omega) (v:=.pointer none) (by show Value.pointer (match S.fault with|none=>none|some _=>some R.fb)=_;rw[hft]);have ql:=h.lt;have hpcl:S.pc<xs.length:=(ils hx).1;obtain⟨cb,co,hcode,hcbl,hcx⟩:=h.stat.code.at hx;have HCD:=hd hcode;have HX0:=hd (hcx 0 _ rfl);have HX1:=hd (hcx 1 _ rfl);have HX2:=hd (hcx 2 _ rfl);have HX3:=hd (hcx 3 _ rfl);have HX4:=hd (hcx 4 _ rfl);have HX5:=hd (hcx 5 _ rfl);have HX6:=hd (hcx 6 _ rfl);have HX7:=hd (hcx 7 _ rfl);have HX8:=hd (hcx 8 _ rfl);have HV:=hd hv;have HKF:=hd hkf;obtain⟨pc,hpc⟩:∃pc,pc=S.pc:=⟨_,rfl⟩;have HPC:=hd hpc;rw[<-hpc] at HX0 HX1 HX2 HX3 HX4 HX5 HX6 HX7 HX8 hpcl;have hpcI:((pc:Nat):Int)<xs.length:=by omega
 have HOK:=hd hok;have HCE:=hd hce;have HCYB:=hd hcb;have HINS:=hd hx;have HFT:=hd hft;have HBF:=hd hbf;clear hbf;clear h hov hft hx hv hcode hcx hpc hkf hok hce hcb;go_enter func18,ntmps18
 go_wp2_with fail
 clear q40 q39;refine rgH 11 [(10,sIx w.heap.size)] ?_ ?_
 ·exact Ah.cons sIx.stays Ah.nil
 simp only[TK]
 repeat(refine dE (fun wr nr hJ=>by(have hE:=hJ.1;have hC:=HH.o.nil hE;have q5:=hC.cell (i:=5) (by omega) (v:=.slice R.A.code xs.length R.A.ccap) rfl;rw[HCD.o] at q5;have q37:=hC.cell (i:=37) (by omega) (v:=S.pc) rfl;rw[<-HPC.o] at q37;have qcl:=hC.lt;have cbl:cb<wr.heap.size:=nl hcbl hE.size;have x0:=hE.held HX0.o (by simp);rw[Nat.add_zero] at x0;have x1:=hE.held HX1.o (by simp);have x2:=hE.held HX2.o (by simp);have x3:=hE.held HX3.o (by simp);have x4:=hE.held HX4.o (by simp);have x5:=hE.held HX5.o (by simp);have x6:=hE.held HX6.o (by simp);have x7:=hE.held HX7.o (by simp);have x8:=hE.held HX8.o (by simp);clear hC hE);clear hJ;exact CL) ?_;simp only[PT])
 refine Ct (sIx w.heap.size) rfl rfl ?_ ?_
 ·intro wr nr hJ hf;refine⟨wr.heap.size,.cells #[(0:Int),(0:Int),(0:Int),(0:Int),(0:Int),(0:Int),(0:Int),(0:Int),(0:Int)] 76,?_,Blk.new _ _ _,by have:=hJ.1.size;exact this⟩
  clear hJ hf;go_simp
  first|rfl|exact⟨rfl,rfl⟩
 intro (b3:Nat);simp only[PT];dsimp only[sIx];refine Aa (fun w2 hJ hF=>?_)
 have hf10:Blk w2 b3 76 #[(0:Int),(0:Int),(0:Int),(0:Int),(0:Int),(0:Int),(0:Int),(0:Int),(0:Int)]/\w.heap.size<=b3:=hF 10;have HB2:=hd hf10.1;have hb3:=hf10.2;have HE2:Hd (Ext [] w w2):=hd hJ.1;have hbc:=HB2.o.cell;have hbf:=HB2.o.frozen;have hbl:=HB2.o.lt;clear hF hJ hf10;have HB3:=hd (HB2.o.all9 (.int .i64 xo) (.int .i64 xk) (.int .i64 xd) (.int .i64 xa) (.int .i64 xb) (.int .i64 xc) (.int .i64 xp) (.int .i64 xn) (.int .i64 xm));have HE3:=hd (HE2.o.nine hb3 (.int .i64 xo) (.int .i64 xk) (.int .i64 xd) (.int .i64 xa) (.int .i64 xb) (.int .i64 xc) (.int .i64 xp) (.int .i64 xn) (.int .i64 xm));go_upto_region 4 with fail
 clear hbc hbf hbl;generalize ((((((((w2.setCell ⟨b3,0,none⟩ xo).setCell ⟨b3,1,none⟩ xk).setCell ⟨b3,2,none⟩ xd).setCell ⟨b3,3,none⟩ xa).setCell ⟨b3,4,none⟩ xb).setCell ⟨b3,5,none⟩ xc).setCell ⟨b3,6,none⟩ xp).setCell ⟨b3,7,none⟩ xn).setCell ⟨b3,8,none⟩ xm=w3 at *;have HC3:=hd (HH.o.nil HE3.o);have HKB:=hd (HKF.o b3 hb3);have qxc:=HB3.o.cell;have qxl:=HB3.o.lt;go_upto_if 32 with fail
 clear qxc qxl;go_cut [] (fun wx=>Aj R.A w wx/\Ak wx R m xs (Br S ⟨xo,xk,xd,xa,xb,xc,xp,xn,xm⟩)/\Blk wx b3 76 #[xo,xk,xd,xa,xb,xc,xp,xn,xm])
 case first=>
  have qxc:=HB3.o.cell;have qxl:=HB3.o.lt;by_cases h18:xo=18
  ·have hdv:=HV.o.d;have hdq:=HV.o.q (.inl (show(Ins.mk xo xk xd xa xb xc xp xn xm).op=18 from h18));have hmb:=Bc HC3.o.kd.ok;dsimp only at hdv hdq;obtain⟨d,rfl⟩:∃n:Nat,xd=n:=⟨xd.toNat,by omega⟩;have HWT:=hd (Iu HC3.o HOK.o.wf d (by omega));have HS0:Hd (Br S ⟨xo,xk,d,xa,xb,xc,xp,xn,xm⟩=S.wait (d:Nat)):=hd (by unfold Br;rw[ijp h18]);have h18b:(xo==18)=true:=by simpa using h18
   clear h18 hdv hdq hmb;go_wp2_with fail
   refine HWT.o.mono ?_
   rintro e w5 ⟨rfl,hE5,hC5⟩;have HC5:=hd hC5;have HE5:=hd ((Aj.of (A:=R.A) HE3.o (by simp)).trans hE5);have HB5:=hd (HB3.o.extC hE5 HKB.o);clear hE5 hC5 qxc qxl;go_wp2_with fail
   go_meet
   exact⟨HE5.o,by rw[HS0.o];exact HC5.o,HB5.o⟩
  ·have HS0:Hd (Br S ⟨xo,xk,xd,xa,xb,xc,xp,xn,xm⟩=S):=hd (by unfold Br;rw[ijn h18]);have h18b:(xo==18)=false:=by simpa using h18
   clear h18;go_wp2_with fail
   go_meet
   exact⟨Aj.of (A:=R.A) HE3.o (by simp),by rw[HS0.o];exact HC3.o,HB3.o⟩
 case rest=>
  obtain⟨hE4,hC4,hB4⟩:=hcut;rename World=>w4
  have HE4:=hd hE4;have HC4:=hd hC4;have HB4:=hd hB4;clear hE4 hC4 hB4 HC3;obtain⟨S0,hS0⟩:∃S0,S0=Br S ⟨xo,xk,xd,xa,xb,xc,xp,xn,xm⟩:=⟨_,rfl⟩;obtain⟨k1,k2,k3,k4,k5,k6⟩:=Hb (x:=⟨xo,xk,xd,xa,xb,xc,xp,xn,xm⟩) HOK.o c HCYB.o;have HS0:=hd hS0;rw[<-hS0] at k1 k2 k3 k4 k5 k6 HC4;have HOK0:=hd k1;have HPC0:=hd k2;have HTU0:=hd k3;have HCY0:=hd k4;have HOV0:=hd k5;have HFT0:=hd k6;clear k1 k2 k3 k4 k5 k6 hS0;have HP:=hd HV.o.p;go_upto_region 6 with fail
  go_cut [4] (fun s wx=>s=.bool (Cr S0 ⟨xo,xk,xd,xa,xb,xc,xp,xn,xm⟩)/\Ext [] w4 wx)
  case first=>
   by_cases hp:xp=0
   ·subst hp;refine Am 10 (JE _) (Ext []) (Bw []) (by kernel_rfl) (by kernel_rfl) JE.less ?_ JE.start ?_
    ·exact Ah.nil
    simp only[TK]
    repeat(refine dE (fun wr nr hJ=>by(have qx:=HB4.o.ext hJ (by simp);have qxc:=qx.cell;have qxl:=qx.lt;clear qx);clear hJ;exact CL) ?_;simp only[PT])
    iterate 6
     refine Ee rfl ?_
     simp only[PT]
    refine Aa (fun w5 hJ hF=>?_)
    have HE5:=hd hJ;clear hF hJ;go_wp2_with fail
    go_meet
    exact⟨rfl,HE5.o⟩
   ·have hp2:0<=xp/\xp<=16:=HP.o;obtain⟨q,rfl⟩:∃q:Nat,xp=(q:Int)+1:=⟨(xp-1).toNat,by omega⟩;have hq16:q<16:=by omega
    have hqZ:((q:Nat):Int)<16:=by omega
    have hpz:((q:Int)+1==0)=false:=by simp;omega
    have HID:Hd (Cr S0 ⟨xo,xk,xd,xa,xb,xc,(q:Int)+1,xn,xm⟩=(S0.r (q:Nat)==0)):=hd (by
     unfold Cr;dsimp only;rw[show((q:Int)+1 != 0)=true by simp;omega,show(q:Int)+1-1=q by omega,Bool.true_and])
    obtain⟨rv,hrv⟩:∃v,v=S0.r (q:Nat):=⟨_,rfl⟩;have HRV:=hd hrv;rw[<-hrv] at HID;clear hrv hp2;have qxc:=HB4.o.cell;have qxl:=HB4.o.lt;have qr:=HC4.o.reg hq16;rw[<-HRV.o] at qr;have qcl:=HC4.o.lt;by_cases hr0:rv=0
    ·have hne:(rv==0)=true:=by simp[hr0]
     clear qxc qxl qr qcl;refine Am 10 (JE _) (Ext []) (Bw []) (by kernel_rfl) (by kernel_rfl) JE.less ?_ JE.start ?_
     ·exact Ah.nil
     simp only[TK]
     repeat(refine dE (fun wr nr hJ=>by(have qx:=HB4.o.ext hJ (by simp);have qxc:=qx.cell;have qxl:=qx.lt;clear qx;have qr:=(HC4.o.nil hJ).reg hq16;rw[<-HRV.o] at qr;have qcl:=(HC4.o.nil hJ).lt);clear hJ;exact CL) ?_;simp only[PT])
     refine Aa (fun w5 hJ hF=>?_)
     have HE5:=hd hJ;have qr:=(HC4.o.nil hJ).reg hq16;rw[<-HRV.o] at qr;have qcl:=(HC4.o.nil hJ).lt;clear hF hJ;go_wp2_with fail
     go_meet
     exact⟨by rw[HID.o,hr0];rfl,HE5.o⟩
    ·have hne:(rv==0)=false:=by simp[hr0]
     clear qxc qxl qr qcl;refine Am 10 (JE _) (Ext []) (Bw []) (by kernel_rfl) (by kernel_rfl) JE.less ?_ JE.start ?_
     ·exact Ah.nil
     simp only[TK]
     repeat(refine dE (fun wr nr hJ=>by(have qx:=HB4.o.ext hJ (by simp);have qxc:=qx.cell;have qxl:=qx.lt;clear qx;have qr:=(HC4.o.nil hJ).reg hq16;rw[<-HRV.o] at qr;have qcl:=(HC4.o.nil hJ).lt);clear hJ;exact CL) ?_;simp only[PT])
     refine Aa (fun w5 hJ hF=>?_)
     have HE5:=hd hJ;have qr:=(HC4.o.nil hJ).reg hq16;rw[<-HRV.o] at qr;have qcl:=(HC4.o.nil hJ).lt;clear hF hJ;go_wp2_with fail
     go_meet
     exact⟨by rw[HID.o,hne],HE5.o⟩
  case rest=>
   obtain⟨rfl,hE5⟩:=hcut;rename World=>w5
   have HE5:=hd (HE4.o.trans (Aj.of (A:=R.A) hE5 (by simp)));have HC5:=hd (HC4.o.nil hE5);have HB5:=hd (HB4.o.ext hE5 (by simp));clear hE5;obtain⟨id,hid⟩:∃b,b=Cr S0 ⟨xo,xk,xd,xa,xb,xc,xp,xn,xm⟩:=⟨_,rfl⟩;rw[<-hid];have HID:=hd hid;clear hid;have qxc:=HB5.o.cell;have qxl:=HB5.o.lt;go_wp2_with fail
   refine(Ir HC5.o HOK0.o.wf xo xk xd xa xb xc xp xn xm HV.o).mono ?_
   rintro e w6 ⟨Ra,lr,cr,Wa,lw,cw,rfl,hlr,hlw,hE6,hr,hws,hs1,hs2,ht1,ht2⟩;have HE6:=hd (HE5.o.trans (Aj.of (A:=R.A) hE6 (by simp)));have HC6:=hd (HC5.o.nil hE6);have HB6:=hd (HB5.o.ext hE6 (by simp));have HLR:=hd hlr;have HLW:=hd hlw;have HR6:=hd hr;have HW6:=hd hws;have HS1:=hd hs1;have HS2:=hd hs2;have HT1:=hd ht1;have HT2:=hd ht2;clear hE6 hlr hlw hr hws hs1 hs2 ht1 ht2 qxc qxl;go_wp2_with fail
   refine(Ot HC6.o HOK0.o.wf Ra Wa lr cr lw cw (Ae m S0 ⟨xo,xk,xd,xa,xb,xc,xp,xn,xm⟩) (Ab m S0 ⟨xo,xk,xd,xa,xb,xc,xp,xn,xm⟩) HR6.o HW6.o HLR.o HLW.o HS1.o HS2.o (by have h9:=Vt HC6.o.kd.ok S0 ⟨xo,xk,xd,xa,xb,xc,xp,xn,xm⟩;rw[HLR.o,HLW.o] at h9;exact h9) (Mf HC6.o.kd.ok HOK0.o.wf HV.o)).mono ?_
   rintro e w7 ⟨rfl,hE7⟩;have HE7:=hd (HE6.o.trans (Aj.of (A:=R.A) hE7 (by simp)));have HC7:=hd (HC6.o.nil hE7);have HB7:=hd (HB6.o.ext hE7 (by simp));have HR7:=hd (HR6.o.ext hE7 (by simp));have HW7:=hd (HW6.o.ext hE7 (by simp));have HT17:=hd (HT1.o.ext hE7 (by simp));have HT27:=hd (HT2.o.ext hE7 (by simp));clear hE7 HR6 HW6 HT1 HT2;obtain⟨bv,hbv⟩:∃b,b=Cg m S0 (Ae m S0 ⟨xo,xk,xd,xa,xb,xc,xp,xn,xm⟩) (Ab m S0 ⟨xo,xk,xd,xa,xb,xc,xp,xn,xm⟩):=⟨_,rfl⟩;rw[<-hbv];have HBV:=hd hbv;clear hbv;go_upto_region 9 with fail
   go_cut [66] (fun s wx=>s=.bool (bv != 0 && !id)/\wx=w7)
   case first=>
    cases id
    ·by_cases hb0:bv=0
     ·subst hb0;go_wp2_with fail
      go_meet
      exact⟨rfl,rfl⟩
     ·have hbn:(bv != 0)=true:=by simp[hb0]
      go_wp2_with fail
      go_meet
      exact⟨by rw[hbn];rfl,rfl⟩
    ·by_cases hb0:bv=0
     ·subst hb0;go_wp2_with fail
      go_meet
      exact⟨rfl,rfl⟩
     ·have hbn:(bv != 0)=true:=by simp[hb0]
      go_wp2_with fail
      go_meet
      exact⟨by rw[hbn];rfl,rfl⟩
   case rest=>
    obtain⟨rfl,rfl⟩:=hcut;rename World=>w7
    have hff:(bv != 0 && !id)=true:=by
     have h9:=HBF.o;rw[<-HS0.o,<-HID.o,<-HBV.o] at h9;cases id
     ·simp at h9;simp[h9]
     ·exact absurd (.inl rfl) h9
    rw[hff];have HFF:=hd hff.symm;clear hff;have q37:=HC7.o.cell (i:=37) (by omega) (v:=pc) (by rw[HPC.o,<-HPC0.o];rfl);have q39:=HC7.o.cell (i:=39) (by omega) (v:=.pointer none) (by show Value.pointer (match S0.fault with|none=>none|some _=>some R.fb)=_;rw[HFT0.o,HFT.o]);have qf:=HC7.o.ref.frozen 39;have qcl:=HC7.o.lt
    have hid:id=false/\bv≠0:=by
     have h9:=HFF.o;cases id
     ·refine⟨rfl,fun h0=>?_⟩
      rw[h0] at h9;simp at h9
     ·simp at h9
    have HSX:Hd (Gn m xs S ⟨xo,xk,xd,xa,xb,xc,xp,xn,xm⟩=(false,{S0 with fault:=some (pc,bv) })):=hd (by
     unfold Gn;dsimp only;rw[show(if xo=18 then S.wait xd else S)=S0 from HS0.o.symm,ijp ⟨by rw[<-HID.o];exact hid.1,by rw[<-HBV.o];exact hid.2⟩,<-HBV.o,<-HPC.o])
    clear hid;have HK8:=hd ((HC7.o.rekd (fun b=>if b=w7.heap.size then 8 else R.A.kd b) (fun b hb=>ijn (by omega))).nil ((Ext.refl [] w7).alloc (.cells #[(pc:Nat),bv] 36)));have HC8:=hd (HK8.o.setFault pc bv w7.heap.size (Blk.new _ _ _) (ijp rfl));have HE8:=hd (HE7.o.trans ((Aj.of (A:=R.A) ((Ext.refl [] w7).alloc (.cells #[(pc:Nat),bv] 36)) (by simp)).trans (Aj.of (A:=R.A) (T:=[R.A.c]) (er.setCell (p:=⟨R.A.c,39,none⟩) (.inl (by simp)) (.pointer (some w7.heap.size))) (fun x hx=>by rw[ms hx,HH.o.kd.kc];omega))));have hsw:=World.setCell_alloc_past (w:=w7) (.cells #[(pc:Nat),bv] 36) R.A.c 39 (.pointer (some w7.heap.size)) HC7.o.lt;rw[hsw] at HC8 HE8;clear hsw;have HZ:Hd (∀b,b<w.heap.size->b≠w7.heap.size):=hd (fun b hb=>by have:=HE7.o.size;omega);go_wp2_with fail
    go_ret
    rw[HSX.o];exact⟨rfl,_,HE8.o,HC8.o,rfl,fun b hb=>ijn (HZ.o b hb)⟩
end Go.Proofs.YtkgmhggliifkjaaGreat
