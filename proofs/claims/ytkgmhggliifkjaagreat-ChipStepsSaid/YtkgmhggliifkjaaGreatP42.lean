import Derived.Test.YtkgmhggliifkjaaGreatP40
namespace Go.Proofs.YtkgmhggliifkjaaGreat
open Go.RowKit Go.Proofs.Tryz
set_option linter.all false
set_option maxHeartbeats 8000000
set_option maxRecDepth 100000
attribute [local irreducible] Ax
theorem Agv {w:World}{R:RA}{m:Mc}{xs:List Ins}{S:MS}(h:Ak w R m xs S)(hov:S.over=false)(hft:S.fault=none)(hl:xs.length<=100000)(xk xd xa xb xc xn xm:Int)(hx:xs[S.pc]? = some ⟨3,xk,xd,xa,xb,xc,0,xn,xm⟩)(hv:VI m ⟨3,xk,xd,xa,xb,xc,0,xn,xm⟩)(hkf:∀b,w.heap.size<=b->40<=R.A.kd b)(hok:OkS m xs S)(hce:Bh m 0 xs=0){c:Int}(hcb:Fi c S)(hcl:c<=500000000000) :
  Calls prog 18 #[.pointer (some R.A.c)] w (Pu R m xs (Gn m xs S ⟨3,xk,xd,xa,xb,xc,0,xn,xm⟩) w):=by
 have HH:=hd h;have q40:=h.cell (i:=40) (by omega) (v:=.bool false) (by show Value.bool S.over=_;rw[hov]);have q39:=h.cell (i:=39) (by omega) (v:=.pointer none) (by show Value.pointer (match S.fault with|none=>none|some _=>some R.fb)=_;rw[hft]);have ql:=h.lt;have hpcl:S.pc<xs.length:=(ils hx).1;obtain⟨cb,co,hcode,hcbl,hcx⟩:=h.stat.code.at hx;have HCD:=hd hcode;have HX0:=hd (hcx 0 _ rfl);have HX1:=hd (hcx 1 _ rfl);have HX2:=hd (hcx 2 _ rfl);have HX3:=hd (hcx 3 _ rfl);have HX4:=hd (hcx 4 _ rfl);have HX5:=hd (hcx 5 _ rfl);have HX6:=hd (hcx 6 _ rfl);have HX7:=hd (hcx 7 _ rfl);have HX8:=hd (hcx 8 _ rfl);have HV:=hd hv;have HKF:=hd hkf;obtain⟨pc,hpc⟩:∃pc,pc=S.pc:=⟨_,rfl⟩;have HPC:=hd hpc;rw[<-hpc] at HX0 HX1 HX2 HX3 HX4 HX5 HX6 HX7 HX8 hpcl;have hpcI:((pc:Nat):Int)<xs.length:=by omega
 have HOK:=hd hok;have HCE:=hd hce;have HCYB:=hd hcb;have HINS:=hd hx;have HFT:=hd hft;clear h hov hft hx hv hcode hcx hpc hkf hok hce hcb;go_enter func18,ntmps18
 go_wp2_with fail
 clear q40 q39;refine rgH 11 [(10,sIx w.heap.size)] ?_ ?_
 ·exact Ah.cons sIx.stays Ah.nil
 simp only[TK]
 repeat(refine dE (fun wr nr hJ=>by(have hE:=hJ.1;have hC:=HH.o.nil hE;have q5:=hC.cell (i:=5) (by omega) (v:=.slice R.A.code xs.length R.A.ccap) rfl;rw[HCD.o] at q5;have q37:=hC.cell (i:=37) (by omega) (v:=S.pc) rfl;rw[<-HPC.o] at q37;have qcl:=hC.lt;have cbl:cb<wr.heap.size:=nl hcbl hE.size;have x0:=hE.held HX0.o (by simp);rw[Nat.add_zero] at x0;have x1:=hE.held HX1.o (by simp);have x2:=hE.held HX2.o (by simp);have x3:=hE.held HX3.o (by simp);have x4:=hE.held HX4.o (by simp);have x5:=hE.held HX5.o (by simp);have x6:=hE.held HX6.o (by simp);have x7:=hE.held HX7.o (by simp);have x8:=hE.held HX8.o (by simp);clear hC hE);clear hJ;exact CL) ?_;simp only[PT])
 refine Ct (sIx w.heap.size) rfl rfl ?_ ?_
 ·intro wr nr hJ hf;refine⟨wr.heap.size,.cells #[(0:Int),(0:Int),(0:Int),(0:Int),(0:Int),(0:Int),(0:Int),(0:Int),(0:Int)] 76,?_,Blk.new _ _ _,by have:=hJ.1.size;exact this⟩
  clear hJ hf;go_simp
  first|rfl|exact⟨rfl,rfl⟩
 intro (b3:Nat);simp only[PT];dsimp only[sIx];refine Aa (fun w2 hJ hF=>?_)
 have hf10:Blk w2 b3 76 #[(0:Int),(0:Int),(0:Int),(0:Int),(0:Int),(0:Int),(0:Int),(0:Int),(0:Int)]/\w.heap.size<=b3:=hF 10;have HB2:=hd hf10.1;have hb3:=hf10.2;have HE2:Hd (Ext [] w w2):=hd hJ.1;have hbc:=HB2.o.cell;have hbf:=HB2.o.frozen;have hbl:=HB2.o.lt;clear hF hJ hf10;have HB3:=hd (HB2.o.all9 (.int .i64 3) (.int .i64 xk) (.int .i64 xd) (.int .i64 xa) (.int .i64 xb) (.int .i64 xc) (.int .i64 0) (.int .i64 xn) (.int .i64 xm));have HE3:=hd (HE2.o.nine hb3 (.int .i64 3) (.int .i64 xk) (.int .i64 xd) (.int .i64 xa) (.int .i64 xb) (.int .i64 xc) (.int .i64 0) (.int .i64 xn) (.int .i64 xm));go_upto_region 4 with fail
 clear hbc hbf hbl;generalize ((((((((w2.setCell ⟨b3,0,none⟩ (.int .i64 3)).setCell ⟨b3,1,none⟩ xk).setCell ⟨b3,2,none⟩ xd).setCell ⟨b3,3,none⟩ xa).setCell ⟨b3,4,none⟩ xb).setCell ⟨b3,5,none⟩ xc).setCell ⟨b3,6,none⟩ (.int .i64 0)).setCell ⟨b3,7,none⟩ xn).setCell ⟨b3,8,none⟩ xm=w3 at *;have HC3:=hd (HH.o.nil HE3.o);have HKB:=hd (HKF.o b3 hb3);have hS00:Br S ⟨3,xk,xd,xa,xb,xc,0,xn,xm⟩=S:=by unfold Br;rw[ijn (show ¬(3:Int)=18 by decide)]
 have HC4:Hd (Ak w3 R m xs (Br S ⟨3,xk,xd,xa,xb,xc,0,xn,xm⟩)):=hd (by rw[hS00];exact HC3.o);have HE4:Hd (Aj R.A w w3):=hd (Aj.of (A:=R.A) HE3.o (by simp));have HB4:=HB3;have qxc:=HB3.o.cell;have qxl:=HB3.o.lt;clear hS00;go_upto_region 6 with fail
 clear qxc qxl HC3;obtain⟨S0,hS0⟩:∃S0,S0=Br S ⟨3,xk,xd,xa,xb,xc,0,xn,xm⟩:=⟨_,rfl⟩;obtain⟨k1,k2,k3,k4,k5,k6⟩:=Hb (x:=⟨3,xk,xd,xa,xb,xc,0,xn,xm⟩) HOK.o c HCYB.o;have HS0:=hd hS0;rw[<-hS0] at k1 k2 k3 k4 k5 k6 HC4;have HOK0:=hd k1;have HPC0:=hd k2;have HTU0:=hd k3;have HCY0:=hd k4;have HOV0:=hd k5;have HFT0:=hd k6;clear k1 k2 k3 k4 k5 k6 hS0;have HP:=hd HV.o.p;refine Am 10 (JE _) (Ext []) (Bw []) (by kernel_rfl) (by kernel_rfl) JE.less ?_ JE.start ?_
 ·exact Ah.nil
 simp only[TK]
 repeat(refine dE (fun wr nr hJ=>by(have qx:=HB4.o.ext hJ (by simp);have qxc:=qx.cell;have qxl:=qx.lt;clear qx);clear hJ;exact CL) ?_;simp only[PT])
 iterate 6
  refine Ee rfl ?_
  simp only[PT]
 refine Aa (fun w5 hJ hF=>?_)
 have HE5:=hd (HE4.o.trans (Aj.of (A:=R.A) hJ (by simp)));have HC5:=hd (HC4.o.nil hJ);have HB5:=hd (HB4.o.ext hJ (by simp));clear hF hJ;have qxc:=HB5.o.cell;have qxl:=HB5.o.lt;go_wp2_with fail
 refine(Ir HC5.o HOK0.o.wf 3 xk xd xa xb xc 0 xn xm HV.o).mono ?_
 rintro e w6 ⟨Ra,lr,cr,Wa,lw,cw,rfl,hlr,hlw,hE6,hr,hws,hs1,hs2,ht1,ht2⟩;have HE6:=hd (HE5.o.trans (Aj.of (A:=R.A) hE6 (by simp)));have HC6:=hd (HC5.o.nil hE6);have HB6:=hd (HB5.o.ext hE6 (by simp));have HLR:=hd hlr;have HLW:=hd hlw;have HR6:=hd hr;have HW6:=hd hws;have HS1:=hd hs1;have HS2:=hd hs2;have HT1:=hd ht1;have HT2:=hd ht2;clear hE6 hlr hlw hr hws hs1 hs2 ht1 ht2 qxc qxl;go_wp2_with fail
 refine(Ot HC6.o HOK0.o.wf Ra Wa lr cr lw cw (Ae m S0 ⟨3,xk,xd,xa,xb,xc,0,xn,xm⟩) (Ab m S0 ⟨3,xk,xd,xa,xb,xc,0,xn,xm⟩) HR6.o HW6.o HLR.o HLW.o HS1.o HS2.o (by have h9:=Vt HC6.o.kd.ok S0 ⟨3,xk,xd,xa,xb,xc,0,xn,xm⟩;rw[HLR.o,HLW.o] at h9;exact h9) (Mf HC6.o.kd.ok HOK0.o.wf HV.o)).mono ?_
 rintro e w7 ⟨rfl,hE7⟩;have HE7:=hd (HE6.o.trans (Aj.of (A:=R.A) hE7 (by simp)));have HC7:=hd (HC6.o.nil hE7);have HB7:=hd (HB6.o.ext hE7 (by simp));have HR7:=hd (HR6.o.ext hE7 (by simp));have HW7:=hd (HW6.o.ext hE7 (by simp));have HT17:=hd (HT1.o.ext hE7 (by simp));have HT27:=hd (HT2.o.ext hE7 (by simp));clear hE7 HR6 HW6 HT1 HT2;have hbz:Cg m S0 (Ae m S0 ⟨3,xk,xd,xa,xb,xc,0,xn,xm⟩) (Ab m S0 ⟨3,xk,xd,xa,xb,xc,0,xn,xm⟩)=0:=Yn (x:=⟨3,xk,xd,xa,xb,xc,0,xn,xm⟩) (.inl rfl);rw[hbz];have hbd0:Cr S0 ⟨3,xk,xd,xa,xb,xc,0,xn,xm⟩=true\/Cg m S0 (Ae m S0 ⟨3,xk,xd,xa,xb,xc,0,xn,xm⟩) (Ab m S0 ⟨3,xk,xd,xa,xb,xc,0,xn,xm⟩)=0:=.inr hbz;clear hbz;have hbd:=hbd0;rw[HS0.o] at hbd;have HSX:=hd (He (xs:=xs) hbd);have HM1:=hd (Kj HC7.o.kd.ok HOK.o HV.o hbd HCYB.o);have HM2:=hd (Kk HC7.o.kd.ok HM1.o);have HM3:=hd (Kl HM2.o);have HBD:=hd hbd0;clear hbd hbd0;have hcy:=HCY0.o.1;have hcy2:=HCY0.o.2.1;obtain⟨cy,hcye⟩:∃v,v=S0.cyc:=⟨_,rfl⟩;have HCY:=hd hcye;rw[<-hcye] at hcy hcy2;clear hcye;have hpr:=Fh (lanes:=m.lanes) (by have:=Bc HC7.o.kd.ok;omega) ⟨3,xk,xd,xa,xb,xc,0,xn,xm⟩;obtain⟨pr,hpre⟩:∃v,v=Bx m.lanes ⟨3,xk,xd,xa,xb,xc,0,xn,xm⟩:=⟨_,rfl⟩;have HPR:=hd hpre;rw[<-hpre] at hpr;clear hpre;obtain⟨hpr0,hpr1⟩:=hpr;go_wp2_with fail
 refine rgE 10 [(9,Bv (.int .i64 pr))] ?_
 simp only[TK]
 repeat(refine dE (fun wr nr hJ=>by(have hC:=HC7.o.nil hJ;have qcl:=hC.lt;have q38:=hC.cell (i:=38) (by omega) (v:=cy) (by rw[HCY.o];rfl);have q0:=hC.cell (i:=0) (by omega) (v:=m.main) rfl;have q1:=hC.cell (i:=1) (by omega) (v:=m.banks) rfl;have q2:=hC.cell (i:=2) (by omega) (v:=m.bank) rfl;have q3:=hC.cell (i:=3) (by omega) (v:=m.lanes) rfl;have q4:=hC.cell (i:=4) (by omega) (v:=m.queues) rfl;have qx:=HB7.o.ext hJ (by simp);have qxc:=qx.cell;have qxl:=qx.lt;clear qx hC);clear hJ;exact CL) ?_;simp only[PT])
 refine Bj rfl rfl ?_ ?_
 ·apply Exists.intro
  apply Exists.intro
  refine⟨fun wr=>?_,fun wr nr hJ=>?_⟩
  ·go_simp
   first|exact⟨rfl,rfl⟩|rfl
  ·exact(by have h1:=Nk m ⟨3,xk,xd,xa,xb,xc,0,xn,xm⟩ wr (by have:=HV.o.op;exact this);rw[<-HPR.o] at h1;exact h1)
 simp only[PT];refine Aa (fun w8 hJ hF=>?_)
 have HC8:=hd (HC7.o.nil hJ);have HE8:=hd (HE7.o.trans (Aj.of (A:=R.A) hJ (by simp)));have HB8:=hd (HB7.o.ext hJ (by simp));have HR8:=hd (HR7.o.ext hJ (by simp));have HW8:=hd (HW7.o.ext hJ (by simp));have HT18:=hd (HT17.o.ext hJ (by simp));have HT28:=hd (HT27.o.ext hJ (by simp));have q38:=HC8.o.cell (i:=38) (by omega) (v:=cy) (by rw[HCY.o];rfl);have qf:=HC8.o.ref.frozen 38;have ql8:=HC8.o.lt;have HC9:=hd (HC8.o.setCyc (cy+pr));have HE9:=hd (HE8.o.trans (Aj.of (A:=R.A) (T:=[R.A.c]) (er.setCell (p:=⟨R.A.c,38,none⟩) (.inl (by simp)) (.int .i64 (cy+pr))) (fun x hx=>by rw[ms hx,HH.o.kd.kc];omega)));have hb3c:b3≠R.A.c:=fun e=>by have h1:=HKB.o;rw[e,HH.o.kd.kc] at h1;omega
 have HB9:=hd (HB8.o.far (p:=⟨R.A.c,38,none⟩) hb3c (.int .i64 (cy+pr)))
 have hra:∀a,Ra=some a->a.block∉[R.A.c]:=fun a ha hm=>by
  obtain⟨C,hC⟩:=HT18.o a ha;exact absurd (ms hm) (Blk.apart hC HC8.o.ref (by decide))
 have hwa:∀a,Wa=some a->a.block∉[R.A.c]:=fun a ha hm=>by
  obtain⟨C,hC⟩:=HT28.o a ha;exact absurd (ms hm) (Blk.apart hC HC8.o.ref (by decide))
 have HR9:=hd (HR8.o.ext ((Ext.refl [R.A.c] w8).setCell (p:=⟨R.A.c,38,none⟩) (.inl (by simp)) (.int .i64 (cy+pr))) hra);have HW9:=hd (HW8.o.ext ((Ext.refl [R.A.c] w8).setCell (p:=⟨R.A.c,38,none⟩) (.inl (by simp)) (.int .i64 (cy+pr))) hwa);clear hF hJ hra hwa hb3c HR7 HR8 HW7 HW8 HT17 HT18 HT27 HT28;go_upto_region 13 with fail
 generalize w8.setCell ⟨R.A.c,38,none⟩ (.int .i64 (cy+pr))=w9 at *;clear q38 qf ql8 HC8 HE8 HB8;obtain⟨T,hT⟩:∃T,T=({S0 with cyc:=cy+pr }:MS):=⟨_,rfl⟩;rw[<-hT] at HC9;have HT:=hd hT;clear hT;have qxc:=HB9.o.cell;have qxl:=HB9.o.lt;go_upto_block 0 with fail
 clear qxc qxl;go_cut [] (fun wx=>AtR R m xs (De xs (Ev m S ⟨3,xk,xd,xa,xb,xc,0,xn,xm⟩) ⟨3,xk,xd,xa,xb,xc,0,xn,xm⟩) w b3 #[(3:Int),xk,xd,xa,xb,xc,(0:Int),xn,xm] wx)
 case first=>
  have hsl:=Bz.length HCE.o HOK0.o.stack;have htl:T.turns.length<=100000:=by rw[HT.o];dsimp only;omega
  have htp:T.pc=pc:=by rw[HT.o];exact HPC0.o.trans HPC.o.symm
  have HWT0:Hd (WfM m T):=hd (by rw[HT.o];exact HOK0.o.wf.frame rfl rfl rfl rfl rfl rfl);have HCYT:Hd (0<=T.cyc/\T.cyc<=1000000000000):=hd (by rw[HT.o];dsimp only;omega);have HTL:=hd htl;have HTP:=hd htp;clear hsl htp
  have e1:La m S ⟨3,xk,xd,xa,xb,xc,0,xn,xm⟩=S0:=by
   unfold La;rw[<-HS0.o];split
   ·rfl
   ·simp[Az]
  have e2:Iq m S ⟨3,xk,xd,xa,xb,xc,0,xn,xm⟩=T:=by unfold Iq;rw[e1,HT.o,HCY.o,HPR.o]
  have HS3:Hd (Ev m S ⟨3,xk,xd,xa,xb,xc,0,xn,xm⟩=T):=hd (by unfold Ev;rw[ijn (show ¬(3:Int)=19 by decide)];exact e2);clear e1 e2;obtain⟨i0,hi0,hz0,hz1,hz2⟩:=info_parts (show((prog).info? 100).map (fun i=>(i.zero,i.size,i.bytes))=some (some (.agg #[(0:Int),(0:Int)]),2,16) by kernel_rfl);obtain⟨n,hn⟩:∃n,n=T.turns.length:=⟨_,rfl⟩;have HN:=hd hn;obtain⟨lv,hlv⟩:∃v,v=R.A.lv:=⟨_,rfl⟩;have HLV:=hd hlv;have hnb:n<=100000:=by omega
  clear hn hlv htl;go_wp2_with fail
  have q36:=HC9.o.cell (i:=36) (by omega) (v:=R.A.lv) rfl;rw[<-HLV.o] at q36;have q37:=HC9.o.cell (i:=37) (by omega) (v:=T.pc) rfl;rw[HTP.o] at q37;have qf:=HC9.o.ref.frozen 36;have ql:=HC9.o.lt
  have HO0:Hd (∀wq,Ext [] w9 wq->wq.ownsRow 0 100 2 lv n (Jp T.turns)):=hd (fun wq hq=>by
   have:=(HC9.o.nil hq).loops.1;rw[<-HLV.o,<-HN.o] at this;exact this)
  go_region_law (
   refine step_append_lies _ rfl (.tmp 119) (.tmp 125) 49 rfl 0 100 i0 _ 2 16 underlying49 hi0 hz0 hz1 hz2 rfl (by omega) lv n (Jp T.turns) rfl ?_ ⟨w9.heap.size,0,none⟩ 1 1 [.int .i64 pc,.int .i64 0] rfl rfl ?_ ?_ (by omega) ?_ ?_ ?_ _ rfl ?_
   ·refine HO0.o _ ?_
    repeat(first|exact er|apply Ext.alloc|apply Ext.drew|apply Ext.drewN)
   ·exact World.news_of_block (Blk.new' _ _ _ _ (by simp))
   ·intro u hu;simp at hu;rcases hu with rfl|rfl<;>rfl
   ·unfold maxLen;omega
   ·omega
   ·simp
   intro g2 cap2 w10 ho hg ha hz
   have hE02:Ext lv.ownBlock.toList w9 w10:=by
    refine Ext.grown ?_ hg (fun k hk=>.inl (by simp[hk]))
    repeat(first|exact er|apply Ext.alloc|apply Ext.drew|apply Ext.drewN)
   have hol:∀k∈lv.ownBlock.toList,k<w9.heap.size/\R.A.kd k=7:=fun k hk=>by
    have h1:R.A.lv.ownBlock=some k:=by rw[<-HLV.o];simpa using hk
    exact⟨HC9.o.loops.own k h1,HC9.o.loops.2 k h1⟩
   have hX2:=HB9.o.ext hE02 (fun hm=>by have h1:=(hol _ hm).2;have h2:=HKB.o;omega);have ha2:lv.ownBlock=some g2\/w9.heap.size<=g2:=ha.imp (fun h=>h) (fun e=>by rw[e];simp)
   have hne:R.A.c∉lv.ownBlock.toList:=by
    intro hm;have h1:=(hol _ hm).2;have h2:=HH.o.kd.kc;omega
   have hC2:=HC9.o.ref.ext hE02 hne;have p36:w10.cell? ⟨R.A.c,36,none⟩=some lv:=by rw[hC2.cell,Ci _ _ _ _ (by omega),HLV.o];rfl
   have pf:=hC2.frozen 36;have pl:=hC2.lt;have HO2:=hd ho;have HA2:=hd ha2;have HE02:=hd hE02;have HX2:=hd hX2;have HOL:=hd hol;clear ho hg ha hE02 hne hC2 hz hol hX2 ha2 q36 q37 qf ql)
  all_goals
   have HK:Hd (∀b,b<w9.heap.size->(fun b=>if b=g2/\w9.heap.size<=b then 7 else R.A.kd b) b=R.A.kd b):=hd (fun b hb=>by show(if _ then _ else _)=_;rw[ijn (by omega)]);have HRK:=hd (HC9.o.rekd (fun b=>if b=g2/\w9.heap.size<=b then 7 else R.A.kd b) HK.o)
   have HPLs:Hd (RL w10 {R.A with kd:=fun b=>if b=g2/\w9.heap.size<=b then 7 else R.A.kd b,lv:=(.slice (some g2) (n+1) cap2) } ((pc,0) :: T.turns)):=hd (RL.push (A:={R.A with kd:=fun b=>if b=g2/\w9.heap.size<=b then 7 else R.A.kd b }) HO2.o HN.o (by
    show(if _ then _ else _)=7
    rcases HA2.o with h1|h1
    ·have h2:=HOL.o g2 (by simp[h1]);rw[ijn (by omega)];exact h2.2
    ·rw[ijp ⟨rfl,h1⟩]))
   have HC10:=hd (HRK.o.setLv HE02.o (fun x hx=>by have h2:=HOL.o x hx;show(if _ then _ else _)=7;rw[ijn (by omega)];exact h2.2) (.slice (some g2) (n+1) cap2) ((pc,0) :: T.turns) HPLs.o);have hb3c:b3≠R.A.c:=fun e=>by have h1:=HKB.o;rw[e,HH.o.kd.kc] at h1;omega
   have HX3:=hd (HX2.o.far (p:=⟨R.A.c,36,none⟩) hb3c (.slice (some g2) (n+1) cap2));have HE10:=hd (HE9.o.trans ((Aj.of (A:=R.A) HE02.o (fun x hx=>by rw[(HOL.o x hx).2];omega)).trans (Aj.of (A:=R.A) (T:=[R.A.c]) (er.setCell (p:=⟨R.A.c,36,none⟩) (.inl (by simp)) (.slice (some g2) (n+1) cap2)) (fun x hx=>by rw[ms hx,HH.o.kd.kc];omega))));have HB3L:Hd (b3<w9.heap.size/\w.heap.size<=w9.heap.size):=hd ⟨HB9.o.lt,HE9.o.size⟩;have HBG:=hd (Rq HC10.o HCE.o pc 0 T.turns rfl ⟨by omega,by omega⟩ hl HTL.o HCYT.o 3 xk xd xa xb xc 0 xn xm (by rw[HPC.o];exact HINS.o) rfl HV.o);clear hb3c;go_wp2_with fail
   refine HBG.o.mono ?_
   rintro e w11 ⟨rfl,hD⟩;have HD:=hd hD;clear hD p36 pf pl;go_wp2_with fail
   go_meet
   have e1:De xs (Ev m S ⟨3,xk,xd,xa,xb,xc,0,xn,xm⟩) ⟨3,xk,xd,xa,xb,xc,0,xn,xm⟩=Cz xs {T with turns:=(pc,0) :: T.turns } pc 0 T.turns ⟨3,xk,xd,xa,xb,xc,0,xn,xm⟩:=by
    rw[HS3.o];unfold De;rw[ijp rfl,HTP.o];rfl
   rw[e1];have hk3:=HK.o b3 HB3L.o.1;exact AtR.done (R1:={R with A:={R.A with kd:=fun b=>if b=g2/\w9.heap.size<=b then 7 else R.A.kd b,lv:=.slice (some g2) (n+1) cap2 } }) HE10.o rfl (fun b hb=>HK.o b (by have:=HB3L.o.2;omega)) (by rw[show({R.A with kd:=fun b=>if b=g2/\w9.heap.size<=b then 7 else R.A.kd b,lv:=.slice (some g2) (n+1) cap2 }:CA).kd b3=R.A.kd b3 from hk3];exact HKB.o) HX3.o ⟨rfl,HD.o⟩
 case rest=>
  obtain⟨R1,hE10,hC10,hc10,hk10,h310,hB10⟩:=hcut;rename World=>w10
  have HE10:=hd hE10;have HC10:=hd hC10;have HB10:=hd hB10;have Hc10:=hd hc10;have Hk10:=hd hk10;have H310:=hd h310;clear hE10 hC10 hc10 hk10 h310 hB10;have HWF:Hd (WfM m (De xs (Ev m S ⟨3,xk,xd,xa,xb,xc,0,xn,xm⟩) ⟨3,xk,xd,xa,xb,xc,0,xn,xm⟩)):=hd (OkF.flow HCE.o HM3.o.wf (by rw[HM3.o.turns,HM3.o.pc];exact HOK.o.stack) (by rw[HM3.o.pc];exact HINS.o)).wf;obtain⟨F,hF0⟩:∃F,F=De xs (Ev m S ⟨3,xk,xd,xa,xb,xc,0,xn,xm⟩) ⟨3,xk,xd,xa,xb,xc,0,xn,xm⟩:=⟨_,rfl⟩;rw[<-hF0] at HC10 HWF HSX;clear hF0;obtain⟨fp,hfp⟩:∃p,p=F.pc:=⟨_,rfl⟩;have HFP:=hd hfp;clear hfp;go_wp2_with fail
  refine rgE 9 [] ?_
  simp only[TK]
  repeat(refine dE (fun wr nr hJ=>by(have hC:=HC10.o.nil hJ;have qcl:=hC.lt;have q37:=hC.cell (i:=37) (by omega) (v:=fp) (by rw[HFP.o];rfl);have q5:=hC.cell (i:=5) (by omega) (v:=.slice R1.A.code xs.length R1.A.ccap) rfl;rw[Hc10.o] at q37 q5 qcl;clear hC);clear hJ;exact CL) ?_;simp only[PT])
  refine Aa (fun w11 hJ hF=>?_)
  have HC11:=hd (HC10.o.nil hJ);have HE11:=hd (HE10.o.trans (Aj.of (A:=R.A) hJ (by simp)));have HB11:=hd (HB10.o.ext hJ (by simp));clear hF hJ;by_cases hfe:fp=xs.length
  ·have hfb:((fp:Int)==(xs.length:Int))=true:=by simp[hfe]
   have HEN:Hd (Fq m xs F={F.waits m.queues.toNat with over:=true }):=hd (by unfold Fq;rw[ijp (by rw[<-HFP.o];exact hfe)]);have q40:=HC11.o.cell (i:=40) (by omega) (v:=.bool F.over) rfl;have qf:=HC11.o.ref.frozen 40;have qcl:=HC11.o.lt;rw[Hc10.o] at q40 qf qcl;have hC12:=HC11.o.setOver;rw[Hc10.o] at hC12;have HA12:=hd ((show AtR R m xs F w b3 #[(3:Int),xk,xd,xa,xb,xc,(0:Int),xn,xm] w11 from⟨R1,HE11.o,HC11.o,Hc10.o,Hk10.o,H310.o,HB11.o⟩).own HH.o.lt HH.o.kd.kc 40 (.bool true) (S2:={F with over:=true }) (fun R1 h1 hc1=>by have h2:=h1.setOver;rw[hc1] at h2;exact h2));clear hC12 hfe;obtain⟨Q,hQ⟩:∃Q,Q=m.queues.toNat:=⟨_,rfl⟩;have hmq:=Bc HC11.o.kd.ok;have hQ4:Q<=4:=by omega
   have HMQ:Hd (m.queues=(Q:Nat)):=hd (by omega);have HQQ:=hd hQ;clear hQ hmq;go_upto_region 26 with fail
   clear q40 qf qcl;generalize w11.setCell ⟨R.A.c,40,none⟩ (.bool true)=w12 at *;obtain⟨R2,-,hC12,hc12,-⟩:=HA12.o;have q4:=hC12.cell (i:=4) (by omega) (v:=.int .i64 (Q:Nat)) (by rw[<-HMQ.o];rfl);have qcl:=hC12.lt;rw[hc12] at q4 qcl;clear hC12 hc12;go_wp2_with fail
   clear q4 qcl;go_loopw [153] (fun i wr=>∃j:Nat,i=.int .i64 j/\j<=Q/\Hd (AtR R m xs (({F with over:=true }:MS).waits j) w b3 #[(3:Int),xk,xd,xa,xb,xc,(0:Int),xn,xm] wr)) (fun i _=>(Q-intOf i).toNat)
   case atStart=>exact⟨0,rfl,by omega,HA12⟩
   case round=>
    obtain⟨j,rfl,hj,HAj⟩:=hrel;rename World=>wq
    obtain⟨R3,hEj,hCj,hcj,hkj,h3j,hBj⟩:=HAj.o;have HEj:=hd hEj;have HCj:=hd hCj;have Hcj:=hd hcj;have Hkj:=hd hkj;have H3j:=hd h3j;have HBj:=hd hBj;clear hEj hCj hcj hkj h3j hBj;by_cases hlt:j<Q
    ·have hWT:=Iu HCj.o (WfM.waits (HWF.o.frame (T:={F with over:=true }) rfl rfl rfl rfl rfl rfl) j) j (by omega);rw[Hcj.o] at hWT;have HWT:=hd hWT;have hjI:((j:Nat):Int)<(Q:Nat):=by omega
     clear hWT;go_wp2_with fail
     refine HWT.o.mono ?_
     rintro e wz ⟨rfl,hD⟩;have HD:=hd hD;clear hD;go_wp2_with fail
     go_roundw
     case rel=>exact⟨j+1,by go_num,by omega,hd (AtR.done HEj.o Hcj.o Hkj.o H3j.o HBj.o (Nc.doneR ⟨rfl,HD.o⟩))⟩
     case measure=>simp[intOf];omega
    ·obtain rfl:j=Q:=by omega
     go_wp2_with fail
     go_ret
     rw[HSX.o,HEN.o];have h9:=HCj.o;rw[Le,HQQ.o] at h9;exact⟨rfl,R3,HEj.o,h9,Hcj.o,Hkj.o⟩
  ·have hfb:((fp:Int)==(xs.length:Int))=false:=by simp;omega
   have HEN:Hd (Fq m xs F=F):=hd (by unfold Fq;rw[ijn (by rw[<-HFP.o];exact hfe)]);clear hfe;go_wp2_with fail
   go_ret
   rw[HSX.o,HEN.o];exact⟨rfl,R1,HE11.o,HC11.o,Hc10.o,Hk10.o⟩
end Go.Proofs.YtkgmhggliifkjaaGreat
