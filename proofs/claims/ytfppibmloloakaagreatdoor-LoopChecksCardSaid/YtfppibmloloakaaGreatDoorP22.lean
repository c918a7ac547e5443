import Derived.Test.YtfppibmloloakaaGreatDoorP21
namespace Go.Proofs.YtfppibmloloakaaGreatDoor
open Go.RowKit Go.Proofs.Tryz
set_option linter.all false
section
theorem mul_step {a b r:Nat}(h:a<b):a*r+r<=b*r:=by
 have:=Nat.mul_le_mul_right r (show a+1<=b by omega);rw[Nat.add_mul,Nat.one_mul] at this;exact this
attribute [local irreducible] relAt
set_option maxHeartbeats 16000000 in
set_option maxRecDepth 100000 in
theorem tvec_any (tb B eb n nb:Nat)(cv:Value)(Kk:List (Nat×List Int))(Tk:List Tch)(names:List ByteArray)(vs:List Int)(nk:Nat)(path:List Int)(gl L:List Nat)(AL:List Value)(g pb po:Nat)(CA:Option Addr)(cc:Nat)(BA:Option Addr)(bcap:Nat)(bgs:List Nat)(PA:Option Addr)(pc:Nat)(vv:Value)(h:SH)(bs:List St)(wq:World)
  (hT:TrS tb B cv Kk Tk wq) (hC:CStF wq n L AL names path gl nk g h bs pb po CA cc BA bcap bgs PA pc vv) (hF:Fd nb names (.mk h bs)) (hk1:h.k=1) (hvec:h.vec=true) (hV:EnvR wq eb vs) (hl:vs.length=names.length) (hnt:n<=tb) (hne:n<=eb) (heB:eb<B) (het:eb≠tb) (hfit:Fit Kk Tk (vecI (names.zip vs) h nk bs)) :
  Calls Tryz.prog 181 #[.pointer (some ⟨tb,0,none⟩),ptV g,.slice (some ⟨eb,0,none⟩) vs.length 8] wq fun e w'=>
   e=.returned (.tuple #[])/\XB [tb,eb] B wq w'/\TrS tb B cv (Kk ++ (vecI (names.zip vs) h nk bs).map kyI) (Tk ++ tchV (names.zip vs) h Kk.length bs) w'/\EnvR w' eb vs:=by
 have HTk:=hd hT;have HC:=hd hC;have HFD:=hd hF;have HVk:=hd hV;have HL:=hd hl;have HFT:=hd hfit;have HKK:=hd hk1;have hd7:=hV.1;have htB:=hT.nt.1;have hbgn:bgs.length<=1000000:=hC.row.1.1;have hbl9:bs.length<=1000000:=by have:=hC.len;omega
 have hf0:=hfit.1;rw[vecI_len] at hf0
 have HBD:Hd ((-100000<=h.lo/\h.lo<=100000)/\(-100000<=h.hi/\h.hi<=100000)/\(1<=h.step/\h.step<=100000)/\names.length<8):=hd (by
  cases hF with
  | loop _ _ _ _ _ _ h0 h1 h2 h3=>exact⟨h1,h2,h3,h0⟩
  | when _ _ _ h1=>omega
  | store _ _ h1=>omega)
 have HV3:Hd (∀s∈bs,s.h.k=3):=hd (by
  cases hF with
  | loop _ _ _ _ _ _ _ _ _ _ h4=>exact h4 hvec
  | when _ _ _ h1=>omega
  | store _ _ h1=>omega)
 have hmy:manyS h<=200000:=manyS_le HBD.o.1 HBD.o.2.1 HBD.o.2.2.1;have HFK:Hd (∀s∈bs,Fd nb (innerV names h) s):=hd (LstAt.body HC.o HFD.o).fd;have HIV:Hd (innerV names h=names ++ [h.var]):=hd (if_pos hk1);have qg0:wq.cell? ⟨g,0,none⟩=some (.pointer (some ⟨pb,po,none⟩)):=HC.o.blk.cell 0;have qgl:=HC.o.blk.lt;have qg2:wq.cell? ⟨g,2,none⟩=some (.int .i64 (if h.k=1 then(manyS h:Int) else 0)):=HC.o.blk.cell 2;have qg4:wq.cell? ⟨g,4,none⟩=some (.slice BA bs.length bcap):=HC.o.blk.cell 4;rw[if_pos hk1] at qg2;have hgn:=HC.o.gn;have hpn:=HC.o.pn;have HG2:=hd qg2;have HG0:=hd qg0;have HG4:=hd qg4;clear hT hC hF hV hl hfit hk1 hvec qg2 qg0;generalize hd':vs.length=d at *;have HD:=hd hd';clear hd';generalize henv:names.zip vs=env at *;have HENV:=hd henv;clear henv
 have HSS:Hd (∀x∈[tb,eb],n<=x):=hd fun x hx=>by
  rcases List.mem_cons.1 hx with rfl|hx
  ·exact hnt
  ·rw[List.mem_singleton.1 hx];exact hne
 have hnB:n<=B:=by omega
 have HNS:Hd (∀b,b<n->b<B/\b∉[tb,eb]):=hd fun b hb=>⟨by omega,fun hm=>by have:=HSS.o b hm;omega⟩
 have HTE:Hd (eb∉[tb]):=hd fun h=>het (List.mem_singleton.1 h)
 have HMO:Hd (∀a b:World,XB [tb] B a b->XB [tb,eb] B a b):=hd fun _ _ h=>h.mono fun x hx=>.inl (by rw[List.mem_singleton.1 hx];exact List.mem_cons_self ..)
 have HMT:Hd (∀x∈[tb],n<=x):=hd fun x hx=>by rw[List.mem_singleton.1 hx];exact hnt
 have HTEX:Hd (∀(K:List (Nat×List Int)) (T:List Tch) (a b:World),TrS tb B cv K T a->Ext [eb] a b->TrS tb B cv K T b):=hd fun K T a b hT hE=>hT.ext hE fun x hx=>by rw[List.mem_singleton.1 hx];exact⟨het,.inl heB⟩
 have HVAL:Hd (∀j:Nat,j<manyS h->Bdd (valS h j)/\envS env h j=(names ++ [h.var]).zip (vs ++ [valS h j])):=hd fun j hj=>⟨valS_bdd HBD.o.1 HBD.o.2.1 HBD.o.2.2.1 hj,by rw[<-HENV.o];exact envS_zip (by rw[HD.o];exact HL.o) h j⟩
 unfold ptV;go_enter Tryz.func181,Tryz.ntmps181
 go_wp2_with fail
 go_loopw [16] (fun i wx=>∃a:Nat,i=.int .i64 a/\a<=bs.length/\Hd (XB [tb,eb] B wq wx)/\Hd (TrS tb B cv (Kk ++ (vecI env h nk (bs.take a)).map kyI) (Tk ++ tchV env h Kk.length (bs.take a)) wx)/\Hd (EnvR wx eb vs)) (fun i _=>(bs.length-intOf i).toNat)
 case atStart=>exact⟨0,rfl,Nat.zero_le _,hd (XB.refl _ _ _),hd (by simpa[vecI,tchV] using HTk.o),HVk⟩
 case round=>
  obtain⟨a,rfl,ha,HEA,HTA,HVA⟩:=hrel;rename World=>wa
  by_cases hal:a<bs.length
  ·have ham:(a:Int)<(bs.length:Int):=by omega
   obtain⟨bB,g1,rfl,hg1,hgc1⟩:=HC.o.row.1.at (i:=a) (by have:=HC.o.len;omega);have hg2:wq.cell? ⟨bB,a,none⟩=some (.pointer (some ⟨g1,0,none⟩)):=by have:=hgc1 0 _ rfl;rw[Nat.mul_one,Nat.add_zero] at this;exact this
   have hbn:=HC.o.row.2 bB 0 rfl;have qga:wa.cell? ⟨bB,a,none⟩=some (.pointer (some ⟨g1,0,none⟩)):=HEA.o.held hg2 (HNS.o bB hbn).1 (HNS.o bB hbn).2;have qgal:=World.block_lt_of_cell? wa _ qga;simp only at qgal;obtain⟨s1,hs1⟩:∃s1,bs[a]? = some s1:=⟨_,List.getElem?_eq_getElem hal⟩;have hmem1:=List.mem_of_getElem? hs1;have hk31:=HV3.o _ hmem1
   have hst:storesL (bs.take a)=a:=by
    rw[stores_all (fun s hs=>HV3.o s (List.mem_of_mem_take hs)) fun s hs=>HFK.o s (List.mem_of_mem_take hs),List.length_take];omega
   have hkid:=HC.o.kid a g1 s1 hg1 hs1;rw[hst] at hkid;obtain⟨h1,b1⟩:=s1;obtain⟨pb1,po1,CA1,cc1,BA1,bcap1,bgs1,PA1,pc1,vv1,hC1⟩:=hkid.open_;have HSB:=hd (StoB.of hC1 hk31 (HFK.o _ hmem1));rw[HIV.o] at HSB;have HVT:=hd (vecI_take (env:=env) (h:=h) (no:=nk) hs1);have HTT:=hd (tchV_take (env:=env) (h:=h) (c:=Kk.length) hs1)
   have HLN:Hd ((Kk ++ (vecI env h nk (bs.take a)).map kyI).length=Kk.length+a*manyS h):=hd (by
    rw[List.length_append,List.length_map,vecI_len,List.length_take,Nat.min_eq_left (by omega)])
   have hfr:Fit (Kk ++ (vecI env h nk (bs.take a)).map kyI) (Tk ++ tchV env h Kk.length (bs.take a)) (rowI env h (nk+a) (.mk h1 b1) (manyS h)):=by
    have h9:=vecI_append env h nk (bs.take (a+1)) (bs.drop (a+1));rw[List.take_append_drop,HVT.o] at h9;have h8:=HFT.o;rw[h9] at h8;exact h8.pre.post (tchV_len env h _ nk _)
   obtain⟨hf1,hf2⟩:=hfr;rw[sumI_row] at hf2;rw[show(rowI env h (nk+a) (.mk h1 b1) (manyS h)).length=manyS h by simp[rowI]] at hf1;have HKN:Hd (Kk ++ (vecI env h nk (bs.take (a+1))).map kyI=(Kk ++ (vecI env h nk (bs.take a)).map kyI) ++ (rowI env h (nk+a) (.mk h1 b1) (manyS h)).map kyI):=hd (by rw[HVT.o,List.map_append,List.append_assoc]);have HTN:Hd (Tk ++ tchV env h Kk.length (bs.take (a+1))=((Tk ++ tchV env h Kk.length (bs.take a)) ++ rowR env h h1 (Kk ++ (vecI env h nk (bs.take a)).map kyI).length (manyS h)) ++ rowW env h h1 (Kk ++ (vecI env h nk (bs.take a)).map kyI).length (manyS h)):=hd (by rw[HTT.o,HLN.o];simp only[List.append_assoc];rfl);clear hkid hmem1 hk31 hst hg1 hgc1 hg2 hs1 HVT HTT HLN hC1;simp only[St.h] at hf2;generalize Kk ++ (vecI env h nk (bs.take a)).map kyI=Ka at *;generalize Tk ++ tchV env h Kk.length (bs.take a)=Ta at *;generalize hnka:nk+a=na at *;have hB1:manyS h*(rdE h1.val+1)=manyS h*rdE h1.val+manyS h:=by rw[Nat.mul_add,Nat.mul_one]
   rw[hB1] at hf2;clear hB1;have q2:wa.cell? ⟨g,2,none⟩=some (.int .i64 (manyS h)):=HEA.o.held HG2.o (HNS.o g hgn).1 (HNS.o g hgn).2;have q2l:g<wa.heap.size:=by have:=HEA.o.size;omega
   obtain⟨vL,vT,hB0,hLr,-⟩:=HTA.o.2.2;obtain⟨LA,lc,rfl,-,-⟩:=own_form hLr;have qtb:=hB0.cell;have qtl:=hB0.lt;clear hB0 hLr;generalize hmn:manyS h=mn at *;have HMN:=hd hmn;clear hmn;have HSA:=hd (HSB.o.xb HEA.o HSS.o hnB);have Q2:=hd q2;go_wp2_with fail
   clear q2;go_loopw [29] (fun i wx=>∃j:Nat,i=.int .i64 j/\j<=mn/\Hd (XB [tb,eb] B wa wx)/\Hd (TrS tb B cv (Ka ++ (rowI env h na (.mk h1 b1) j).map kyI) (Ta ++ rowR env h h1 Ka.length j) wx)/\Hd (EnvR wx eb vs)) (fun i _=>(mn-intOf i).toNat)
   case atStart=>exact⟨0,rfl,Nat.zero_le _,hd (XB.refl _ _ _),hd (by rw[rowI_zero,rowR_zero,List.map_nil,List.append_nil,List.append_nil];exact HTA.o),HVA⟩
   case round=>
    obtain⟨j,rfl,hj,HEJ,HTJ,HVJ⟩:=hrel;rename World=>wj
    by_cases hjl:j<mn
    ·
     have hjm:(j:Int)<(mn:Int):=by omega
     have HXX:=HEJ;have HXJ:Hd (XB [tb,eb] B wq wj):=hd (HEA.o.trans HEJ.o);have HXJA:=HSA;have HVJ':=HVAL.o j hjl;have HXV:=hd HVJ'.1;have HEV:=hd HVJ'.2;have q0:wj.cell? ⟨g,0,none⟩=some (.pointer (some ⟨pb,po,none⟩)):=HXJ.o.held HG0.o (HNS.o g hgn).1 (HNS.o g hgn).2;have ql:wj.cell? ⟨pb,po+2,none⟩=some (.int .i64 h.lo):=HXJ.o.held (HC.o.src 2 _ rfl) (HNS.o pb hpn).1 (HNS.o pb hpn).2;have qs:wj.cell? ⟨pb,po+4,none⟩=some (.int .i64 h.step):=HXJ.o.held (HC.o.src 4 _ rfl) (HNS.o pb hpn).1 (HNS.o pb hpn).2
     have HQJ:Hd (∀W,Ext [eb] wj W->W.cell? ⟨g,0,none⟩=some (.pointer (some ⟨pb,po,none⟩))/\W.cell? ⟨g,0,none⟩=some (.pointer (some ⟨pb,po,none⟩))/\g<W.heap.size/\W.cell? ⟨pb,po+2,none⟩=some (.int .i64 h.lo)/\W.cell? ⟨pb,po+4,none⟩=some (.int .i64 h.step)/\pb<W.heap.size):=hd fun W hW=>by
      have hnot1:∀b,b<n->b∉[eb]:=fun b hb hm=>by rw[List.mem_singleton] at hm;omega
      have h1:=hW.size;have h2:=HXJ.o.size;have h3:=HC.o.blk.lt;have h4:=World.block_lt_of_cell? wj _ ql;exact⟨hW.held q0 (hnot1 g hgn),hW.held q0 (hnot1 g hgn),by omega,hW.held ql (hnot1 pb hpn),hW.held qs (hnot1 pb hpn),by simp only at h4;omega⟩
     have hds:d<8:=by have:=HBD.o.2.2.2;have:=HL.o;have:=HD.o;omega
     have hvlo:=HBD.o.1;have HSBJ:=hd (HXJA.o.xb (D:=[tb,eb]) (B:=B) HXX.o HSS.o hnB);unfold valS at HXV HEV;generalize hlo:h.lo=lo at *;generalize hst:h.step=st at *;clear q0 ql qs HVJ';have m1 : -9223372036854775808<=(j:Int)*st:=by have:=HXV.o.1;omega
     have m2:(j:Int)*st<=9223372036854775807:=by have:=HXV.o.2;omega
     have m3 : -9223372036854775808<=lo+(j:Int)*st:=by have:=HXV.o.1;omega
     have m4:lo+(j:Int)*st<=9223372036854775807:=by have:=HXV.o.2;omega
     clear hlo hst;have HRI:Hd (rowI env h na (.mk h1 b1) (j+1)=rowI env h na (.mk h1 b1) j ++ [⟨na,h1,envS env h j⟩]):=hd (rowI_succ env h na (.mk h1 b1) j);have HRR:=hd (rowR_succ env h h1 Ka.length j);have hk9:(Ka ++ (rowI env h na (.mk h1 b1) j).map kyI).length=Ka.length+j:=by simp[rowI]
     have hms:=mul_step (r:=rdE h1.val) hjl;have ht9:(Ta ++ rowR env h h1 Ka.length j).length=Ta.length+j*rdE h1.val:=by rw[List.length_append,rowR_len]
     have HKA:=hd (List.append_assoc Ka ((rowI env h na (.mk h1 b1) j).map kyI) [kyI ⟨na,h1,envS env h j⟩]);have HTA2:=hd (List.append_assoc Ta (rowR env h h1 Ka.length j) (tchI (envS env h j) h1 (Ka.length+j)));have HK9:=hd hk9;clear hk9;generalize hmr:j*rdE h1.val=mr at *;generalize hmm:mn*rdE h1.val=mm at *;go_upto_region 7 with fail
     refine rgW 22 [eb] (fEnv eb d (lo+(j:Int)*st)) [(20,sCells wj.heap.size [.int .i64 (lo+(j:Int)*st)]),(21,sEnv eb (d+1) (vs ++ [lo+(j:Int)*st]))] ?_ ?_
     ·refine Stays.cons (sCells.stays fun b j u y hb hu hf=>?_) (Stays.cons (sEnv.stays fun y hy=>?_) Stays.nil)
      ·have h9:b=eb:=hf.1;have:=HVJ.o.lt;omega
      ·rw[<-HD.o,List.getElem?_append_right (Nat.le_refl _),Nat.sub_self] at hy;cases hy
       rfl
     simp only[List.take_succ_cons,List.take_zero,List.drop_succ_cons,List.drop_zero]
     repeat
      refine relAt_det rfl rfl ?_
      apply Exists.intro
      refine⟨fun wr nr hJ=>?_,?_⟩
      ·obtain⟨q0,-,qgl,ql,qs,qpl⟩:=HQJ.o wr hJ.1;clear hJ;(go_simp;try go_bits)
       first|rfl|exact⟨rfl,rfl⟩
      simp only[Act.put,List.setIfInBounds_toArray,List.set_cons_succ,List.set_cons_zero]
     refine rel_newL (sCells wj.heap.size [.int .i64 (lo+(j:Int)*st)]) rfl rfl (fun wr nr hJ hf=>?_) ?_
     ·refine⟨wr.heap.size,.cells #[.int .i64 (lo+(j:Int)*st)] 3,?_,Ext.size hJ.1,cells_one _ _ _ ((Blk.new wr 3 #[.int .i64 (lo+(j:Int)*st)]).cell 0)⟩
      (go_simp;try go_bits)
      first|rfl|exact⟨rfl,rfl⟩
     intro (b23:Nat);simp only[Act.put,List.setIfInBounds_toArray,List.set_cons_succ,List.set_cons_zero];refine rel_push eb b23 1 d vs (lo+(j:Int)*st) _ _ rfl rfl rfl rfl rfl HD.o hds HXV.o (fun wr nr hJ hf=>?_) ?_
     ·have h23:(sCells wj.heap.size [.int .i64 (lo+(j:Int)*st)]).V b23 wr:=get_after hf 20 (by kernel_rfl);exact⟨HVJ.o.rw hJ.2 fun y hy=>by have:=(List.getElem?_eq_some_iff.1 hy).1;have:=HD.o;omega,h23.2 0 _ rfl⟩
     simp only[Act.put,List.setIfInBounds_toArray,List.set_cons_succ,List.set_cons_zero]
     repeat
      refine relAt_det rfl rfl ?_
      apply Exists.intro
      refine⟨fun wr nr hJ=>?_,?_⟩
      ·skip
       clear hJ;(go_simp;try go_bits)
       first|rfl|exact⟨rfl,rfl⟩
      simp only[Act.put,List.setIfInBounds_toArray,List.set_cons_succ,List.set_cons_zero]
     refine relAt_nil (fun w5 hJ hF=>?_)
     have HV5:Hd (EnvR w5 eb (vs ++ [lo+(j:Int)*st])):=hd (hF 21);have HE5:=hd hJ.1;clear hF hJ;have HX5:Hd (XB [tb,eb] B wj w5):=hd (XB.of HE5.o fun x hx=>.inl (by rw[List.mem_singleton.1 hx];simp));have HT5:=hd (HTEX.o _ _ _ _ HTJ.o HE5.o);have HCA:=hd (inst_any tb B eb n g1 cv _ _ (names ++ [h.var]) nb na (vs ++ [lo+(j:Int)*st]) h1 w5 HT5.o (HSBJ.o.xb HX5.o HSS.o hnB) HV5.o (by simp;have:=HL.o;have:=HD.o;omega) hnt heB het (by rw[HK9.o];omega) (by rw[ht9];omega));rw[List.length_append,List.length_singleton,HD.o,<-HEV.o,HK9.o] at HCA;unfold ptV at HCA;have HKZ:Hd ((na,vs ++ [lo+(j:Int)*st])=kyI ⟨na,h1,envS env h j⟩):=hd (by rw[HEV.o,kyI_zip (by simp;have:=HL.o;have:=HD.o;omega)]);clear ht9;go_wp2_with fail
     refine HCA.o.mono ?_
     rintro e w7 ⟨rfl,hE7,hT7⟩;have HE7:=hd (HMO.o _ _ hE7);have HT7:=hd hT7;have HV7:=hd (hE7.env HV5.o.pop heB HTE.o);clear hE7 hT7 HCA HV5;go_wp2_with fail
     go_roundw
     case rel=>exact⟨j+1,by go_num,by omega,hd ((HEJ.o.trans HX5.o).trans HE7.o),hd (by rw[HRI.o,HRR.o,List.map_append,<-HTA2.o,List.map_singleton,<-HKA.o];rw[HKZ.o] at HT7;exact HT7.o),HV7⟩
     case measure=>simp[intOf];omega
    ·
     have HJM:=hd (show j=mn by omega);rw[HJM.o] at HTJ;clear hj;have q2':wj.cell? ⟨g,2,none⟩=some (.int .i64 mn):=HEJ.o.held Q2.o (HNS.o g hgn).1 (HNS.o g hgn).2;have q2l':=World.block_lt_of_cell? wj _ q2';simp only at q2l';have hT1:(Ta ++ rowR env h h1 Ka.length mn).length<=21000:=by rw[List.length_append,rowR_len];omega
     generalize hK1:Ka ++ (rowI env h na (.mk h1 b1) mn).map kyI=K1 at *;generalize hT1e:Ta ++ rowR env h h1 Ka.length mn=T1 at *;rename World=>w1
     go_wp2_with fail
     clear q2' q2l';go_loopw [60] (fun i wx=>∃j:Nat,i=.int .i64 j/\j<=mn/\Hd (XB [tb,eb] B wa wx)/\Hd (TrS tb B cv K1 (T1 ++ rowW env h h1 Ka.length j) wx)/\Hd (EnvR wx eb vs)) (fun i _=>(mn-intOf i).toNat)
     case atStart=>exact⟨0,rfl,Nat.zero_le _,HEJ,hd (by rw[rowW_zero,List.append_nil];exact HTJ.o),HVJ⟩
     case round=>
      clear HTJ HVJ HEJ;obtain⟨j,rfl,hj,HEJ,HTJ,HVJ⟩:=hrel;rename World=>wj
      by_cases hjl:j<mn
      ·
       have hjm:(j:Int)<(mn:Int):=by omega
       have HXX:=HEJ;have HXJ:Hd (XB [tb,eb] B wq wj):=hd (HEA.o.trans HEJ.o);have HXJA:=HSA;obtain⟨-,-,vb1,-,-,-,q16,hcx1⟩:=(HSA.o.xb HXX.o HSS.o hnB).src;unfold ptV at q16;have hg1n:=HSA.o.gn;have HCX:=hd hcx1;clear hcx1;have HVJ':=HVAL.o j hjl;have HXV:=hd HVJ'.1;have HEV:=hd HVJ'.2;have q0:wj.cell? ⟨g,0,none⟩=some (.pointer (some ⟨pb,po,none⟩)):=HXJ.o.held HG0.o (HNS.o g hgn).1 (HNS.o g hgn).2;have ql:wj.cell? ⟨pb,po+2,none⟩=some (.int .i64 h.lo):=HXJ.o.held (HC.o.src 2 _ rfl) (HNS.o pb hpn).1 (HNS.o pb hpn).2;have qs:wj.cell? ⟨pb,po+4,none⟩=some (.int .i64 h.step):=HXJ.o.held (HC.o.src 4 _ rfl) (HNS.o pb hpn).1 (HNS.o pb hpn).2
       have HQJ:Hd (∀W,Ext [eb] wj W->W.cell? ⟨g,0,none⟩=some (.pointer (some ⟨pb,po,none⟩))/\W.cell? ⟨g,0,none⟩=some (.pointer (some ⟨pb,po,none⟩))/\g<W.heap.size/\W.cell? ⟨pb,po+2,none⟩=some (.int .i64 h.lo)/\W.cell? ⟨pb,po+4,none⟩=some (.int .i64 h.step)/\pb<W.heap.size/\W.cell? ⟨g1,16,none⟩=some (.pointer (some ⟨vb1,0,none⟩))/\g1<W.heap.size):=hd fun W hW=>by
        have hnot1:∀b,b<n->b∉[eb]:=fun b hb hm=>by rw[List.mem_singleton] at hm;omega
        have h1:=hW.size;have h2:=HXJ.o.size;have h3:=HC.o.blk.lt;have h5:=World.block_lt_of_cell? wj _ q16;have h4:=World.block_lt_of_cell? wj _ ql;exact⟨hW.held q0 (hnot1 g hgn),hW.held q0 (hnot1 g hgn),by omega,hW.held ql (hnot1 pb hpn),hW.held qs (hnot1 pb hpn),by simp only at h4;omega,hW.held q16 (hnot1 g1 hg1n),by simp only at h5;omega⟩
       have hds:d<8:=by have:=HBD.o.2.2.2;have:=HL.o;have:=HD.o;omega
       have hvlo:=HBD.o.1;have HSBJ:=hd (HXJA.o.xb (D:=[tb,eb]) (B:=B) HXX.o HSS.o hnB);unfold valS at HXV HEV;generalize hlo:h.lo=lo at *;generalize hst:h.step=st at *;clear q0 ql qs q16 HVJ';have m1 : -9223372036854775808<=(j:Int)*st:=by have:=HXV.o.1;omega
       have m2:(j:Int)*st<=9223372036854775807:=by have:=HXV.o.2;omega
       have m3 : -9223372036854775808<=lo+(j:Int)*st:=by have:=HXV.o.1;omega
       have m4:lo+(j:Int)*st<=9223372036854775807:=by have:=HXV.o.2;omega
       clear hlo hst;have HRW:=hd (rowW_succ env h h1 Ka.length j);have ht9:(T1 ++ rowW env h h1 Ka.length j).length<=100000:=by rw[List.length_append,rowW_len];omega
       have HTA2:=hd (List.append_assoc T1 (rowW env h h1 Ka.length j) [tchW (envS env h j) h1 (Ka.length+j)]);have HWD:=hd (fun W (hW:Ext [eb] wj W)=>width_any (names ++ [h.var]) nb h1.val HSA.o.val (by have:=HSA.o.fit;omega) (names ++ [h.var]) vb1 n [] W (HCX.o.step hW (fun x hx=>.inr (by rw[List.mem_singleton.1 hx];exact hne)) (Nat.le_refl n) fun y hy=>.inl hy));unfold ptV at HWD;have hkj:Ka.length+j<=2000:=by omega
       go_upto_region 12 with fail
       refine rgW 30 [eb] (fEnv eb d (lo+(j:Int)*st)) [(20,sCells wj.heap.size [.int .i64 (lo+(j:Int)*st)]),(21,sEnv eb (d+1) (vs ++ [lo+(j:Int)*st])),(29,sFix (.int .i64 (rdE h1.val:Nat)))] ?_ ?_
       ·refine Stays.cons (sCells.stays fun b j u y hb hu hf=>?_) (Stays.cons (sEnv.stays fun y hy=>?_) (Stays.cons sFix.stays Stays.nil))
        ·have h9:b=eb:=hf.1;have:=HVJ.o.lt;omega
        ·rw[<-HD.o,List.getElem?_append_right (Nat.le_refl _),Nat.sub_self] at hy;cases hy
         rfl
       simp only[List.take_succ_cons,List.take_zero,List.drop_succ_cons,List.drop_zero]
       repeat
        refine relAt_det rfl rfl ?_
        apply Exists.intro
        refine⟨fun wr nr hJ=>?_,?_⟩
        ·obtain⟨q0,-,qgl,ql,qs,qpl,q16,q16l⟩:=HQJ.o wr hJ.1;clear hJ;(go_simp;try go_bits)
         first|rfl|exact⟨rfl,rfl⟩
        simp only[Act.put,List.setIfInBounds_toArray,List.set_cons_succ,List.set_cons_zero]
       refine rel_newL (sCells wj.heap.size [.int .i64 (lo+(j:Int)*st)]) rfl rfl (fun wr nr hJ hf=>?_) ?_
       ·refine⟨wr.heap.size,.cells #[.int .i64 (lo+(j:Int)*st)] 3,?_,Ext.size hJ.1,cells_one _ _ _ ((Blk.new wr 3 #[.int .i64 (lo+(j:Int)*st)]).cell 0)⟩
        (go_simp;try go_bits)
        first|rfl|exact⟨rfl,rfl⟩
       intro (b23:Nat);simp only[Act.put,List.setIfInBounds_toArray,List.set_cons_succ,List.set_cons_zero];refine rel_push eb b23 1 d vs (lo+(j:Int)*st) _ _ rfl rfl rfl rfl rfl HD.o hds HXV.o (fun wr nr hJ hf=>?_) ?_
       ·have h23:(sCells wj.heap.size [.int .i64 (lo+(j:Int)*st)]).V b23 wr:=get_after hf 20 (by kernel_rfl);exact⟨HVJ.o.rw hJ.2 fun y hy=>by have:=(List.getElem?_eq_some_iff.1 hy).1;have:=HD.o;omega,h23.2 0 _ rfl⟩
       simp only[Act.put,List.setIfInBounds_toArray,List.set_cons_succ,List.set_cons_zero]
       repeat
        refine relAt_det rfl rfl ?_
        apply Exists.intro
        refine⟨fun wr nr hJ=>?_,?_⟩
        ·obtain⟨q0,-,qgl,ql,qs,qpl,q16,q16l⟩:=HQJ.o wr hJ.1;clear hJ;(go_simp;try go_bits)
         first|rfl|exact⟨rfl,rfl⟩
        simp only[Act.put,List.setIfInBounds_toArray,List.set_cons_succ,List.set_cons_zero]
       refine rel_extL (sFix (.int .i64 (rdE h1.val:Nat))) rfl rfl ?_ ?_
       ·apply Exists.intro
        apply Exists.intro
        refine⟨fun wr=>?_,fun wr nr hJ hf=>?_⟩
        ·go_simp
         first|exact⟨rfl,rfl⟩|rfl
        ·refine(HWD.o wr hJ.1).mono ?_
         rintro e w' ⟨rfl,hE⟩;exact⟨(),rfl,trivial,hE⟩
       rintro⟨⟩;simp only[Act.put,List.setIfInBounds_toArray,List.set_cons_succ,List.set_cons_zero]
       repeat
        refine relAt_det rfl rfl ?_
        apply Exists.intro
        refine⟨fun wr nr hJ=>?_,?_⟩
        ·skip
         clear hJ;(go_simp;try go_bits)
         first|rfl|exact⟨rfl,rfl⟩
        simp only[Act.put,List.setIfInBounds_toArray,List.set_cons_succ,List.set_cons_zero]
       refine relAt_nil (fun w5 hJ hF=>?_)
       have HV5:Hd (EnvR w5 eb (vs ++ [lo+(j:Int)*st])):=hd (hF 21);have HE5:=hd hJ.1;clear hF hJ;have HX5:Hd (XB [tb,eb] B wj w5):=hd (XB.of HE5.o fun x hx=>.inl (by rw[List.mem_singleton.1 hx];simp));have HT5:=hd (HTEX.o _ _ _ _ HTJ.o HE5.o);have HCA:=hd (wrt_any tb B eb n g1 cv _ _ (names ++ [h.var]) nb na (vs ++ [lo+(j:Int)*st]) h1 ((Ka.length:Int)+(j:Int)) (rdE h1.val:Nat) w5 HT5.o (HSBJ.o.xb HX5.o HSS.o hnB) HV5.o (by simp;have:=HL.o;have:=HD.o;omega) hnt heB ht9);rw[List.length_append,List.length_singleton,HD.o,<-HEV.o] at HCA;unfold ptV at HCA;have HTW:Hd ((⟨h1.buf,evA (envS env h j) h1.at_,(Ka.length:Int)+(j:Int),(rdE h1.val:Nat),true⟩:Tch)=tchW (envS env h j) h1 (Ka.length+j)):=hd (by simp[tchW]);go_wp2_with fail
       refine HCA.o.mono ?_
       rintro e w7 ⟨rfl,hE7,hT7⟩;have HE7:=hd (HMO.o _ _ hE7);have HT7:=hd hT7;have HV7:=hd (hE7.env HV5.o.pop heB HTE.o);clear hE7 hT7 HCA HV5;go_wp2_with fail
       go_roundw
       case rel=>exact⟨j+1,by go_num,by omega,hd ((HEJ.o.trans HX5.o).trans HE7.o),hd (by rw[HRW.o,<-HTA2.o];rw[HTW.o] at HT7;exact HT7.o),HV7⟩
       case measure=>simp[intOf];omega
      ·have HJM:=hd (show j=mn by omega);rw[HJM.o] at HTJ;clear hj;go_wp2_with fail
       go_roundw
       case rel=>exact⟨a+1,by go_num,by omega,hd (HEA.o.trans HEJ.o),hd (by rw[HKN.o,HTN.o];exact HTJ.o),HVJ⟩
       case measure=>simp[intOf];omega
  ·have hal2:a=bs.length:=by omega
   subst hal2;rw[List.take_length] at HTA;go_wp2_with fail
   exact bodyPost_end (results_none rfl _ _ _) rfl ⟨rfl,HEA.o,HTA.o,HVA.o⟩
end
section
def TrP (tb B eb:Nat)(cv:Value)(K:List (Nat×List Int))(T:List Tch)(vs:List Int)(is:List Inst)(ts:List Tch)(w:World)(e:Ending)(w':World):Prop:=
 e=.returned (.tuple #[])/\XB [tb,eb] B w w'/\TrS tb B cv (K ++ is.map kyI) (T ++ ts) w'/\EnvR w' eb vs
def TrC (l:List St):Prop:=∀(tb B eb n nb:Nat) (cv:Value) (K:List (Nat×List Int)) (T:List Tch) (A:Option Addr) (cap:Nat) (gs:List Nat) (names:List ByteArray) (vs:List Int) (no:Nat) (xs:List Int) (gl L:List Nat) (AL:List Value) (w:World),
 TrS tb B cv K T w->LstAt w n nb L AL names xs gl no A gs l->EnvR w eb vs->vs.length=names.length->n<=tb->n<=eb->eb<B->eb≠tb->Fit K T (instL (names.zip vs) no l)->
  Calls Tryz.prog 139 #[.pointer (some ⟨tb,0,none⟩),.slice A l.length cap,.slice (some ⟨eb,0,none⟩) vs.length 8] w (TrP tb B eb cv K T vs (instL (names.zip vs) no l) (tchL (names.zip vs) no K.length l) w)
attribute [local irreducible] relAt
set_option maxHeartbeats 16000000 in
set_option maxRecDepth 100000 in
theorem trun_list (l:List St)(ih:∀s∈l,TrC s.body):TrC l:=by
 intro tb B eb n nb cv K T A cap gs names vs no xs gl L AL w hT hA hV hl hnt hne heB het hfit;have HI:=hd ih;have HT:=hd hT;have HA:=hd hA;have HV:=hd hV;have HL:=hd hl;have HFT:=hd hfit;have hn9:gs.length<=1000000:=hA.row.1;have hd7:=hV.1;have htB:=hT.nt.1;clear ih hT hA hV hl hfit;generalize hn:l.length=m at *;have HN:=hd hn;generalize hd':vs.length=d at *;have HD:=hd hd';have hm9:m<=1000000:=by have:=HA.o.len;omega
 clear hn hd';generalize henv:names.zip vs=env at *;have HENV:=hd henv;clear henv
 have HSS:Hd (∀x∈[tb,eb],n<=x):=hd fun x hx=>by
  rcases List.mem_cons.1 hx with rfl|hx
  ·exact hnt
  ·rw[List.mem_singleton.1 hx];exact hne
 have hnB:n<=B:=by omega
 have HNS:Hd (∀b,b<n->b<B/\b∉[tb,eb]):=hd fun b hb=>⟨by omega,fun hm=>by have:=HSS.o b hm;omega⟩
 have HTE:Hd (eb∉[tb]):=hd fun h=>het (List.mem_singleton.1 h)
 have HMO:Hd (∀a b:World,XB [tb] B a b->XB [tb,eb] B a b):=hd fun _ _ h=>h.mono fun x hx=>.inl (by rw[List.mem_singleton.1 hx];exact List.mem_cons_self ..)
 go_enter Tryz.func139,Tryz.ntmps139
 go_wp2_with fail
 go_loopw [13] (fun i wr=>∃k:Nat,i=.int .i64 k/\k<=m/\Hd (XB [tb,eb] B w wr)/\Hd (TrS tb B cv (K ++ (instL env no (l.take k)).map kyI) (T ++ tchL env no K.length (l.take k)) wr)/\Hd (EnvR wr eb vs)) (fun i _=>(m-intOf i).toNat)
 case atStart=>exact⟨0,rfl,Nat.zero_le _,hd (XB.refl _ _ _),hd (by simpa[instL,tchL] using HT.o),HV⟩
 case round=>
  obtain⟨k,rfl,hk,HE,HTk,HVk⟩:=hrel;rename World=>wq
  by_cases hlt:k<m
  ·have hkm:(k:Int)<(m:Int):=by omega
   have HAq:=hd (HE.o.lst HSS.o hnB HA.o);obtain⟨bA,g,rfl,hg,hgc⟩:=HAq.o.row.at (i:=k) (by have:=HA.o.len;have:=HN.o;omega);have hgq:wq.cell? ⟨bA,k,none⟩=some (.pointer (some ⟨g,0,none⟩)):=by have:=hgc 0 _ rfl;rw[Nat.mul_one,Nat.add_zero] at this;exact this
   have hgql:=World.block_lt_of_cell? wq _ hgq;simp only at hgql;obtain⟨s,hs⟩:∃s,l[k]? = some s:=⟨_,List.getElem?_eq_getElem (by have:=HN.o;omega)⟩;obtain⟨h,bs⟩:=s;have hmem:=List.mem_of_getElem? hs;obtain⟨pb,po,CA,cc,BA,bcap,bgs,PA,pc,vv,hC⟩:=(HAq.o.at_ k g _ hg hs).open_;have HC:=hd hC;have HFD:=hd (HA.o.fd _ hmem);have HIH:=hd (HI.o _ hmem);have HIN:=hd (instL_take (env:=env) (no:=no) hs);have HTN:=hd (tchL_take (env:=env) (no:=no) (c:=K.length) hs);have HFK:=hd (HFT.o.list hs);clear hg hgc hs hmem hC;have HKL:Hd ((K ++ (instL env no (l.take k)).map kyI).length=K.length+(instL env no (l.take k)).length):=hd (by simp);have HKN:Hd (K ++ (instL env no (l.take (k+1))).map kyI=(K ++ (instL env no (l.take k)).map kyI) ++ (instS env (no+storesL (l.take k)) (.mk h bs)).map kyI):=hd (by rw[HIN.o,List.map_append,List.append_assoc]);have HTN2:Hd (T ++ tchL env no K.length (l.take (k+1))=(T ++ tchL env no K.length (l.take k)) ++ tchS env (no+storesL (l.take k)) (K ++ (instL env no (l.take k)).map kyI).length (.mk h bs)):=hd (by rw[HTN.o,HKL.o,List.append_assoc]);clear HIN HTN HKL;generalize K ++ (instL env no (l.take k)).map kyI=Kk at *;generalize T ++ tchL env no K.length (l.take k)=Tk at *;generalize hno:no+storesL (l.take k)=nk at *;have qg0:wq.cell? ⟨g,0,none⟩=some (.pointer (some ⟨pb,po,none⟩)):=HC.o.blk.cell 0;have qgl:=HC.o.blk.lt;have qk:wq.cell? ⟨pb,po,none⟩=some (.int .i64 h.k):=HC.o.src 0 _ rfl;have qpl:=World.block_lt_of_cell? wq _ qk;simp only at qpl;have hgn:=HC.o.gn;have hpn:=HC.o.pn;by_cases hk3:h.k=3
   ·
    have e3:(h.k==3)=true:=by simpa using hk3
    have HKK:=hd hk3;have HST:=hd (StoB.of HC.o hk3 HFD.o);generalize h.k=hk at qk e3;clear hk3;rw[instS_store HKK.o] at HKN HFK;rw[tchS_store HKK.o] at HTN2;have hf1:Kk.length<2000:=by have:=HFK.o.1;simp only[List.length_singleton] at this;omega
    have hf2:Tk.length+rdE h.val<=30000:=by have:=HFK.o.2;simp only[sumI,List.map_cons,List.map_nil,List.sum_cons,List.sum_nil] at this;omega
    have HCA:=hd (inst_any tb B eb n g cv Kk Tk names nb nk vs h wq HTk.o HST.o HVk.o (by rw[HD.o];exact HL.o) hnt heB het hf1 hf2);rw[HD.o,HENV.o] at HCA;unfold ptV at HCA;go_wp2_with fail
    refine HCA.o.mono ?_
    rintro e w2 ⟨rfl,hE,hT2⟩;have HE2:=hd hE;have HT2:=hd hT2;have HV2:=hd (hE.env HVk.o heB HTE.o);have HST2:=hd (HST.o.xb hE (fun x hx=>by rw[List.mem_singleton.1 hx];exact hnt) hnB);clear hE hT2 HCA;have HCB:=hd (wrt_any tb B eb n g cv _ _ names nb nk vs h (Kk.length:Nat) (rdE h.val:Nat) w2 HT2.o HST2.o HV2.o (by rw[HD.o];exact HL.o) hnt heB (by rw[List.length_append,tchI,rdT_len];omega));rw[HD.o,HENV.o] at HCB;unfold ptV at HCB;have HTA:=hd (List.append_assoc Tk (tchI env h Kk.length) [tchW env h Kk.length]);have HKY:Hd ((nk,vs)=kyI ⟨nk,h,env⟩):=hd (by rw[<-HENV.o,kyI_zip (by rw[HD.o];exact HL.o)]);go_wp2_with fail
    refine HCB.o.mono ?_
    rintro e w3 ⟨rfl,hE,hT3⟩;have HE3:=hd hE;have HT3:=hd hT3;have HV3:=hd (hE.env HV2.o heB HTE.o);clear hE hT3 HCB;go_wp2_with fail
    go_roundw
    case rel=>exact⟨k+1,by go_num,by omega,hd (HE.o.trans (HMO.o _ _ (HE2.o.trans HE3.o))),hd (by rw[HKN.o,HTN2.o,<-HTA.o];rw[HKY.o] at HT3;exact HT3.o),HV3⟩
    case measure=>simp[intOf];omega
   ·have e3:(h.k==3)=false:=by simpa using hk3
    by_cases hk2:h.k=2
    ·
     have e2:(h.k==2)=true:=by simpa using hk2
     have HIV:Hd (innerV names h=names):=hd (if_neg (by omega))
     have HHO:=hd (holds_any g CA h.conds.length cc h names eb vs wq (by have:=HC.o.blk.cell 3;rw[this];simp[csArr,hk2]) rfl (HC.o.cond hk2).1 (by
       have:=HFD.o;cases this with
       | loop _ _ _ h1=>omega
       | when _ _ _ _ _ h1 h2=>exact h1
       | store _ _ h1=>omega) HVk.o (by rw[HD.o];exact HL.o))
     rw[HD.o,HENV.o] at HHO;rw[instS_when hk2] at HKN HFK;rw[tchS_when hk2] at HTN2;generalize h.k=hk at qk e2 e3;clear hk2 hk3;go_wp2_with fail
     refine HHO.o.mono ?_
     rintro e w2 ⟨rfl,hE⟩;have HE2:=hd hE;have HX2:Hd (XB [tb,eb] B wq w2):=hd (XB.of0 hE);clear hE HHO;have qg4:w2.cell? ⟨g,4,none⟩=some (.slice BA bs.length bcap):=(HC.o.blk.ext HE2.o (by simp)).cell 4;have qg2l:=(HC.o.blk.ext HE2.o (by simp)).lt;have HT2:=hd (HTk.o.ext0 HE2.o);have HV2:=hd (HVk.o.keep HE2.o (by simp));cases hh:holdsS env h
     ·rw[hh] at HKN HTN2;simp only[Bool.false_eq_true,if_false,List.map_nil,List.append_nil] at HKN HTN2;clear hh;go_wp2_with fail
      go_roundw
      case rel=>exact⟨k+1,by go_num,by omega,hd (HE.o.trans HX2.o),hd (by rw[HKN.o,HTN2.o];exact HT2.o),HV2⟩
      case measure=>simp[intOf];omega
     ·rw[hh] at HKN HTN2 HFK;simp only[if_true] at HKN HTN2 HFK;clear hh;have HLA:=hd ((LstAt.body HC.o HFD.o).step HE2.o (by simp));rw[HIV.o] at HLA;have HQ:=hd (HIH.o tb B eb n nb cv Kk Tk BA bcap bgs names vs nk (xs ++ [(k:Int)]) (innerG gl h g) L AL w2 HT2.o HLA.o HV2.o (by rw[HD.o];exact HL.o) hnt hne heB het (by simp only[St.body];rw[HENV.o];exact HFK.o));simp only[St.body] at HQ;rw[HD.o,HENV.o] at HQ;go_wp2_with fail
      refine HQ.o.mono ?_
      rintro e w3 ⟨rfl,hE3,hI3,hV3⟩;have HE3:=hd hE3;have HI3:=hd hI3;have HV3:=hd hV3;clear hE3 hI3 hV3 HQ;go_wp2_with fail
      go_roundw
      case rel=>exact⟨k+1,by go_num,by omega,hd ((HE.o.trans HX2.o).trans HE3.o),hd (by rw[HKN.o,HTN2.o];exact HI3.o),HV3⟩
      case measure=>simp[intOf];omega
    ·have e2:(h.k==2)=false:=by simpa using hk2
     have hk1:h.k=1:=by
      have:=HFD.o;cases this with
      | loop _ _ _ h1=>exact h1
      | when _ _ _ h1=>omega
      | store _ _ h1=>omega
     have qg2:wq.cell? ⟨g,2,none⟩=some (.int .i64 (if h.k=1 then(manyS h:Int) else 0)):=HC.o.blk.cell 2;have qg4:wq.cell? ⟨g,4,none⟩=some (.slice BA bs.length bcap):=HC.o.blk.cell 4;have qv:wq.cell? ⟨pb,po+5,none⟩=some (.bool h.vec):=HC.o.src 5 _ rfl;rw[if_pos hk1] at qg2;have HKK:=hd hk1
     have HBD:Hd ((-100000<=h.lo/\h.lo<=100000)/\(-100000<=h.hi/\h.hi<=100000)/\(1<=h.step/\h.step<=100000)/\names.length<8):=hd (by
      have:=HFD.o;cases this with
      | loop _ _ _ _ _ _ h0 h1 h2 h3=>exact⟨h1,h2,h3,h0⟩
      | when _ _ _ h1=>omega
      | store _ _ h1=>omega)
     have hmy:manyS h<=200000:=manyS_le HBD.o.1 HBD.o.2.1 HBD.o.2.2.1;generalize h.k=hk at qk e2 e3;clear hk1 hk2 hk3;cases hvec:h.vec
     ·
      rw[hvec] at qv;rw[instS_for HKK.o hvec] at HKN HFK;rw[tchS_for HKK.o hvec] at HTN2;have HTN3:Hd (T ++ tchL env no K.length (l.take (k+1))=Tk ++ tchF env h nk Kk.length bs (manyS h)):=HTN2;clear hvec HTN2;generalize hmn:manyS h=mn at *;have HMN:=hd hmn;clear hmn;go_wp2_with fail
      clear qg2;go_loopw [21] (fun i wx=>∃j:Nat,i=.int .i64 j/\j<=mn/\Hd (XB [tb,eb] B wq wx)/\Hd (TrS tb B cv (Kk ++ (catN j fun k=>instL (envS env h k) nk bs).map kyI) (Tk ++ tchF env h nk Kk.length bs j) wx)/\Hd (EnvR wx eb vs)) (fun i _=>(mn-intOf i).toNat)
      case atStart=>exact⟨0,rfl,Nat.zero_le _,hd (XB.refl _ _ _),hd (by rw[catN_zero,tchF_zero,List.map_nil,List.append_nil,List.append_nil];exact HTk.o),HVk⟩
      case round=>
       obtain⟨j,rfl,hj,HEJ,HTJ,HVJ⟩:=hrel;rename World=>wj
       by_cases hjl:j<mn
       ·have hjm:(j:Int)<(mn:Int):=by omega
        have HXJ:=HEJ;have q0:wj.cell? ⟨g,0,none⟩=some (.pointer (some ⟨pb,po,none⟩)):=HXJ.o.held qg0 (HNS.o g hgn).1 (HNS.o g hgn).2;have q4:wj.cell? ⟨g,4,none⟩=some (.slice BA bs.length bcap):=HXJ.o.held qg4 (HNS.o g hgn).1 (HNS.o g hgn).2;have ql:wj.cell? ⟨pb,po+2,none⟩=some (.int .i64 h.lo):=HXJ.o.held (HC.o.src 2 _ rfl) (HNS.o pb hpn).1 (HNS.o pb hpn).2;have qs:wj.cell? ⟨pb,po+4,none⟩=some (.int .i64 h.step):=HXJ.o.held (HC.o.src 4 _ rfl) (HNS.o pb hpn).1 (HNS.o pb hpn).2
        have HQJ:Hd (∀W,Ext [eb] wj W->W.cell? ⟨g,0,none⟩=some (.pointer (some ⟨pb,po,none⟩))/\W.cell? ⟨g,4,none⟩=some (.slice BA bs.length bcap)/\g<W.heap.size/\W.cell? ⟨pb,po+2,none⟩=some (.int .i64 h.lo)/\W.cell? ⟨pb,po+4,none⟩=some (.int .i64 h.step)/\pb<W.heap.size):=hd fun W hW=>by
         have hnot1:∀b,b<n->b∉[eb]:=fun b hb hm=>by rw[List.mem_singleton] at hm;omega
         have h1:=hW.size;have h2:=HXJ.o.size;exact⟨hW.held q0 (hnot1 g hgn),hW.held q4 (hnot1 g hgn),by omega,hW.held ql (hnot1 pb hpn),hW.held qs (hnot1 pb hpn),by omega⟩
        have HXV:=hd (valS_bdd HBD.o.1 HBD.o.2.1 HBD.o.2.2.1 (by rw[HMN.o];exact hjl):Bdd (valS h j));have hds:d<8:=by have:=HBD.o.2.2.2;have:=HL.o;omega
        have HEV:=hd (envS_zip (by rw[HD.o];exact HL.o) h j:envS (names.zip vs) h j=_);rw[HENV.o] at HEV;have hvlo:=HBD.o.1;unfold valS at HXV HEV;generalize hlo:h.lo=lo at *;generalize hst:h.step=st at *;clear q0 q4 ql qs;have m1 : -9223372036854775808<=(j:Int)*st:=by have:=HXV.o.1;omega
        have m2:(j:Int)*st<=9223372036854775807:=by have:=HXV.o.2;omega
        have m3 : -9223372036854775808<=lo+(j:Int)*st:=by have:=HXV.o.1;omega
        have m4:lo+(j:Int)*st<=9223372036854775807:=by have:=HXV.o.2;omega
        clear hlo hst;have HSU:=hd (catN_succ j fun k=>instL (envS env h k) nk bs);have HSV:=hd (tchF_succ env h nk Kk.length bs j);have HFJ:=hd (HFK.o.cat hjl (tchF_len env h nk Kk.length bs j));have HIV:Hd (innerV names h=names ++ [h.var]):=hd (if_pos HKK.o);have HKS:Hd ((Kk ++ (catN j fun k=>instL (envS env h k) nk bs).map kyI).length=Kk.length+(catN j fun k=>instL (envS env h k) nk bs).length):=hd (by simp);have HKA:=hd (List.append_assoc Kk ((catN j fun k=>instL (envS env h k) nk bs).map kyI) ((instL (envS env h j) nk bs).map kyI));have HTA:=hd (List.append_assoc Tk (tchF env h nk Kk.length bs j) (tchL (envS env h j) nk (Kk.length+(catN j fun k=>instL (envS env h k) nk bs).length) bs));go_upto_region 6 with fail
        refine rgW 25 [eb] (fEnv eb d (lo+(j:Int)*st)) [(23,sCells wj.heap.size [.int .i64 (lo+(j:Int)*st)]),(24,sEnv eb (d+1) (vs ++ [lo+(j:Int)*st]))] ?_ ?_
        ·refine Stays.cons (sCells.stays fun b j u y hb hu hf=>?_) (Stays.cons (sEnv.stays fun y hy=>?_) Stays.nil)
         ·have h9:b=eb:=hf.1;have:=HVJ.o.lt;omega
         ·rw[<-HD.o,List.getElem?_append_right (Nat.le_refl _),Nat.sub_self] at hy;cases hy
          rfl
        simp only[List.take_succ_cons,List.take_zero,List.drop_succ_cons,List.drop_zero]
        repeat
         refine relAt_det rfl rfl ?_
         apply Exists.intro
         refine⟨fun wr nr hJ=>?_,?_⟩
         ·obtain⟨q0,q4,qgl,ql,qs,qpl⟩:=HQJ.o wr hJ.1;clear hJ;(go_simp;try go_bits)
          first|rfl|exact⟨rfl,rfl⟩
         simp only[Act.put,List.setIfInBounds_toArray,List.set_cons_succ,List.set_cons_zero]
        refine rel_newL (sCells wj.heap.size [.int .i64 (lo+(j:Int)*st)]) rfl rfl (fun wr nr hJ hf=>?_) ?_
        ·refine⟨wr.heap.size,.cells #[.int .i64 (lo+(j:Int)*st)] 3,?_,Ext.size hJ.1,cells_one _ _ _ ((Blk.new wr 3 #[.int .i64 (lo+(j:Int)*st)]).cell 0)⟩
         (go_simp;try go_bits)
         first|rfl|exact⟨rfl,rfl⟩
        intro (b23:Nat);simp only[Act.put,List.setIfInBounds_toArray,List.set_cons_succ,List.set_cons_zero];refine rel_push eb b23 1 d vs (lo+(j:Int)*st) _ _ rfl rfl rfl rfl rfl HD.o hds HXV.o (fun wr nr hJ hf=>?_) ?_
        ·have h23:(sCells wj.heap.size [.int .i64 (lo+(j:Int)*st)]).V b23 wr:=get_after hf 23 (by kernel_rfl);exact⟨HVJ.o.rw hJ.2 fun y hy=>by have:=(List.getElem?_eq_some_iff.1 hy).1;have:=HD.o;omega,h23.2 0 _ rfl⟩
        simp only[Act.put,List.setIfInBounds_toArray,List.set_cons_succ,List.set_cons_zero]
        repeat
         refine relAt_det rfl rfl ?_
         apply Exists.intro
         refine⟨fun wr nr hJ=>?_,?_⟩
         ·skip
          clear hJ;(go_simp;try go_bits)
          first|rfl|exact⟨rfl,rfl⟩
         simp only[Act.put,List.setIfInBounds_toArray,List.set_cons_succ,List.set_cons_zero]
        refine relAt_nil (fun w5 hJ hF=>?_)
        have HV5:Hd (EnvR w5 eb (vs ++ [lo+(j:Int)*st])):=hd (hF 24);have HE5:=hd hJ.1;clear hF hJ;have HXQ:Hd (XB [tb,eb] B wq w5):=hd (HEJ.o.trans (XB.of HE5.o fun x hx=>.inl (by rw[List.mem_singleton.1 hx];simp)));have HLA:=hd (HXQ.o.lst HSS.o hnB (LstAt.body HC.o HFD.o));rw[HIV.o] at HLA;have HQ:=hd (HIH.o tb B eb n nb cv _ _ BA bcap bgs (names ++ [h.var]) (vs ++ [lo+(j:Int)*st]) nk (xs ++ [(k:Int)]) (innerG gl h g) L AL w5 (HTJ.o.ext HE5.o fun x hx=>by rw[List.mem_singleton.1 hx];exact⟨het,.inl heB⟩) HLA.o HV5.o (by simp;have:=HL.o;have:=HD.o;omega) hnt hne heB het (by simp only[St.body];rw[<-HEV.o];exact HFJ.o));simp only[St.body] at HQ;rw[<-HEV.o,List.length_append,List.length_singleton,HD.o,HKS.o] at HQ;clear HLA;go_wp2_with fail
        refine HQ.o.mono ?_
        rintro e w7 ⟨rfl,hE7,hI7,hV7⟩;have HE7:=hd hE7;have HI7:=hd hI7;have HV7:=hd hV7.pop;clear hE7 hI7 hV7 HQ HV5;have HX7:Hd (XB [tb,eb] B wq w7):=hd (HXQ.o.trans HE7.o);go_wp2_with fail
        go_roundw
        case rel=>exact⟨j+1,by go_num,by omega,HX7,hd (by rw[HSU.o,HSV.o,List.map_append,<-HKA.o,<-HTA.o];exact HI7.o),HV7⟩
        case measure=>simp[intOf];omega
       ·have hjm:j=mn:=by omega
        subst hjm;go_wp2_with fail
        go_roundw
        case rel=>exact⟨k+1,by go_num,by omega,hd (HE.o.trans HEJ.o),hd (by rw[HKN.o,HTN3.o];exact HTJ.o),HVJ⟩
        case measure=>simp[intOf];omega
     ·
      rw[hvec] at qv;rw[instS_vec HKK.o hvec] at HKN HFK;rw[tchS_vec HKK.o hvec] at HTN2;have HCV:=hd (tvec_any tb B eb n nb cv Kk Tk names vs nk (xs ++ [(k:Int)]) gl L AL g pb po CA cc BA bcap bgs PA pc vv h bs wq HTk.o HC.o HFD.o HKK.o hvec HVk.o (by rw[HD.o];exact HL.o) hnt hne heB het (by rw[HENV.o];exact HFK.o));rw[HD.o,HENV.o] at HCV;unfold ptV at HCV;clear hvec qg2;go_wp2_with fail
      refine HCV.o.mono ?_
      rintro e w3 ⟨rfl,hE3,hI3,hV3⟩;have HE3:=hd hE3;have HI3:=hd hI3;have HV3:=hd hV3;clear hE3 hI3 hV3 HCV;go_wp2_with fail
      go_roundw
      case rel=>exact⟨k+1,by go_num,by omega,hd (HE.o.trans HE3.o),hd (by rw[HKN.o,HTN2.o];exact HI3.o),HV3⟩
      case measure=>simp[intOf];omega
  ·
   have hkm:k=m:=by omega
   subst hkm;have htk:l.take k=l:=List.take_of_length_le (by rw[HN.o];exact Nat.le_refl _);rw[htk] at HTk;go_wp2_with fail
   exact bodyPost_end (results_none rfl _ _ _) rfl ⟨rfl,HE.o,HTk.o,HVk.o⟩
theorem trun_any (l:List St):TrC l:=trun_list l fun s _=>st_ind (P:=fun s=>TrC s.body) (fun h ks ih=>trun_list ks ih) s
end
section
theorem own_none (w:World)(B e s:Nat):w.ownsRow B e s (.slice none 0 0) 0 []:=⟨by simp,.inl ⟨rfl,rfl⟩⟩
def keysB (body:List St):List (Nat×List Int):=(instL [] 0 body).map kyI
def tchB (body:List St):List Tch:=tchL [] 0 0 body
def CodeW (p:Pg)(w:World)(n cb:Nat):Prop:=∃(gs:List Nat) (gA:Option Addr) (gc:Nat) (L:List Nat) (AL:List Value) (sA:Option Addr) (sc:Nat) (av:Value),CodeAt w n cb p.A p.bs.length p.cap p.body gs gA gc L AL sA sc (.slice p.B p.body.length p.bcap) av
attribute [local irreducible] relAt
set_option maxHeartbeats 8000000 in
set_option maxRecDepth 100000 in
theorem trace_any (body:List St)(cb nb n:Nat)(bA:Option Addr)(nbb bc:Nat)(gs:List Nat)(gA:Option Addr)(gc:Nat)(L:List Nat)(AL:List Value)(sA:Option Addr)(sc:Nat)(v1 av:Value)(w:World)
  (hC:CodeAt w n cb bA nbb bc body gs gA gc L AL sA sc v1 av) (hF:∀s∈body,Fd nb [] s) (hg:gs.length<=1000000) (hn:n<=w.heap.size) (hs:smallB body=true) :
  Calls Tryz.prog 93 #[.pointer (some ⟨cb,0,none⟩)] w fun e w'=>∃tb B,e=.returned (.pointer (some ⟨tb,0,none⟩))/\w.heap.size<=tb/\Ext [] w w'/\TrS tb B (.pointer (some ⟨cb,0,none⟩)) (keysB body) (tchB body) w':=by
 have HC:=hd hC;have HF:=hd hF
 have HS:=hd (show Fit [] [] (instL [] 0 body) by
  unfold smallB at hs;simp only[Bool.and_eq_true,decide_eq_true_eq] at hs;exact⟨by simpa using hs.1,by simpa using hs.2⟩)
 have hcn:=hC.cbn;clear hC hF hs;go_enter Tryz.func93,Tryz.ntmps93
 go_upto_region 2 with fail
 generalize hW:World.alloc w _=w1;have HE1:Hd (Ext [] w w1):=hd (by rw[<-hW];exact(Ext.refl [] w).alloc _);have HB1:Hd (Blk w1 w.heap.size 95 #[.pointer (some ⟨cb,0,none⟩),.slice none 0 0,.slice none 0 0]):=hd (by rw[<-hW];exact Blk.new w _ _);have hw1:w1.heap.size=w.heap.size+1:=by rw[<-hW];exact alloc_size _ _
 clear hW;generalize htb:w.heap.size=tb at *;have HQ:Hd (∀W,Ext [] w1 W->W.cell? ⟨cb,2,none⟩=some (.slice gA body.length gc)/\cb<W.heap.size):=hd fun W hW=>⟨(HC.o.blk.ext (HE1.o.trans hW) (by simp)).cell 2,(HC.o.blk.ext (HE1.o.trans hW) (by simp)).lt⟩
 refine rgH 6 [(5,sNewE w1.heap.size)] ?_ ?_
 ·refine Stays.cons sNewE.stays Stays.nil
 simp only[List.take_succ_cons,List.take_zero,List.drop_succ_cons,List.drop_zero]
 repeat
  refine relAt_det rfl rfl ?_
  apply Exists.intro
  refine⟨fun wr nr hJ=>?_,?_⟩
  ·obtain⟨q2,ql⟩:=HQ.o wr hJ.1;clear hJ;(go_simp;try go_bits)
   first|rfl|exact⟨rfl,rfl⟩
  simp only[Act.put,List.setIfInBounds_toArray,List.set_cons_succ,List.set_cons_zero]
 refine rel_new (sNewE w1.heap.size) rfl rfl (fun wr nr hJ hf=>?_) ?_
 ·refine⟨wr.heap.size,.cells (Array.replicate 8 (.int .i64 0)) 3,?_,hJ.1.size,EnvR.made wr⟩
  have hmk:=make_env wr;(go_simp;try go_bits)
  rfl
 intro (eb:Nat);simp only[Act.put,List.setIfInBounds_toArray,List.set_cons_succ,List.set_cons_zero]
 repeat
  refine relAt_det rfl rfl ?_
  apply Exists.intro
  refine⟨fun wr nr hJ=>?_,?_⟩
  ·skip
   clear hJ;(go_simp;try go_bits)
   first|rfl|exact⟨rfl,rfl⟩
  simp only[Act.put,List.setIfInBounds_toArray,List.set_cons_succ,List.set_cons_zero]
 refine relAt_nil (fun w2 hJ hF=>?_)
 have HV1:Hd (w1.heap.size<=eb/\EnvR w2 eb []):=hd (hF 5);have HE2:=hd hJ.1;clear hF hJ;dsimp only[sNewE];have heb:=HV1.o.1;have hlt:=HV1.o.2.lt;have HTR:=hd (show TrS tb (eb+1) (.pointer (some ⟨cb,0,none⟩)) [] [] w2 from⟨by omega,by omega,_,_,HB1.o.ext HE2.o (by simp),own_none _ _ _ _,own_none _ _ _ _⟩);have HLA:=hd ((⟨HC.o.row.1,fun b o hA=>(HC.o.row.2 b o hA).1,HC.o.len,fun i g s hg hs=>by have:=HC.o.cst i g s hg hs;rw[Nat.zero_add];exact this,HF.o⟩:LstAt w n nb L AL [] [] [] 0 gA gs body).step (HE1.o.trans HE2.o) (by simp));have HTN:=hd (trun_any body tb (eb+1) eb n nb (.pointer (some ⟨cb,0,none⟩)) [] [] gA gc gs [] [] 0 [] [] L AL w2 HTR.o HLA.o HV1.o.2 rfl hn (by omega) (by omega) (by omega) HS.o);simp only[List.length_nil] at HTN;go_wp2_with fail
 refine HTN.o.mono ?_
 rintro e w3 ⟨rfl,hX,hT,-⟩;have HT3:=hd hT
 have HE3:Hd (Ext [] w w3):=hd (by
  obtain⟨S,hS,hE⟩:=hX;refine(HE1.o.trans HE2.o).step hE fun x hx=>.inr ?_
  rcases hS x hx with h|h
  ·rcases List.mem_cons.1 h with rfl|h
   ·omega
   ·rw[List.mem_singleton.1 h];omega
  ·omega)
 clear hX hT HTN;go_wp2_with fail
 go_ret
 exact⟨tb,eb+1,rfl,by omega,HE3.o,HT3.o⟩
def orderE (p:Pg):Int:=if checkE p.bs p.body≠0 then checkE p.bs p.body else if smallB p.body then 0 else 2
def TracedP (p:Pg)(w:World)(e:Ending)(w':World):Prop:=Ext [] w w'/\((orderE p≠0/\e=.returned (.tuple #[.pointer none,.int .i64 (orderE p)]))\/
 (orderE p=0/\checkE p.bs p.body=0/\smallB p.body=true/\∃(n cb tb B:Nat),e=.returned (.tuple #[.pointer (some ⟨tb,0,none⟩),.int .i64 0])/\w.heap.size<=tb/\n<=tb/\CodeW p w' n cb/\TrS tb B (.pointer (some ⟨cb,0,none⟩)) (keysB p.body) (tchB p.body) w'))
set_option maxHeartbeats 8000000 in
set_option maxRecDepth 100000 in
theorem traced_any (p:Pg)(w:World)(hP:PgIn w p):Calls Tryz.prog 40 #[pgV p] w (TracedP p w):=by
 have HC:=hd (fun W (hW:Ext [] w W)=>checked_any p W (hP.keep hW));have HOE:Hd (orderE p=if checkE p.bs p.body≠0 then checkE p.bs p.body else if smallB p.body then 0 else 2):=hd rfl;have HCW:Hd (∀W n cb,CodeW p W n cb ↔ CodeW p W n cb):=hd fun _ _ _=>Iff.rfl
 generalize hoe:orderE p=oe at *;unfold TracedP;rw[hoe];clear hoe hP;obtain⟨A,cap,bs,B,bcap,body⟩:=p;dsimp only[pgV] at *;have HE0:=hd ((Ext.refl [] w).alloc (.cells #[.slice A bs.length cap,.slice B body.length bcap] 29));go_enter Tryz.func40,Tryz.ntmps40
 go_wp2_with fail
 generalize World.alloc w _=w1 at *;refine(HC.o w1 HE0.o).mono ?_
 rintro e w2 ⟨hE,h1|⟨h1,n,cb,gs,gA,gc,L,AL,sA,sc,av,h2,h3,h4,h5⟩⟩
 ·obtain⟨h1,h2⟩:=h1;simp only at h1 h2;rw[if_pos h1] at HOE;have HN:=hd h1;have HE2:=hd (HE0.o.trans hE);generalize checkE bs body=ce at *;subst h2;have e1:(ce != 0)=true:=by simpa using h1
  clear h1 hE;go_wp2_with fail
  go_ret2
  exact⟨HE2.o,.inl ⟨by rw[HOE.o];exact HN.o,by rw[HOE.o];rfl⟩⟩
 ·simp only at h1 h5;subst h2;rw[if_neg (by simpa using h1)] at HOE;have HCE:=hd h1;have HE2:=hd (HE0.o.trans hE)
  have HFO:=hd (FormOk.of (show formedE bs body=0 by
   unfold checkE at h1;split at h1
   ·assumption
   ·exact absurd h1 (by assumption)))
  have HCO:=hd h5;have hgl:gs.length<=1000000:=by have:=h5.row.1.1;omega
  have hLl:L.length<=3000:=by have:=h5.lenS.1;have:=HFO.o.sto;omega
  have hcn:=h5.cbn;have hw2:=HE2.o.size;have HSM:=hd (small_any bs cb n A bs.length cap body gs gA gc L AL sA sc (.slice B body.length bcap) av w2 h5 HFO.o.fd hgl hLl h4);clear h1 hE h5;go_wp2_with fail
  refine HSM.o.mono ?_
  rintro e w3 ⟨rfl,hE⟩;have HE3:=hd (HE2.o.trans hE);have HCO3:=hd (HCO.o.step hE (by simp) (Nat.le_refl n));have hw3:=hE.size;clear hE HSM;cases hs:smallB body
  ·rw[hs] at HOE;simp only[Bool.false_eq_true,if_false] at HOE;clear hs;go_wp2_with fail
   go_ret2
   exact⟨HE3.o,.inl ⟨by rw[HOE.o];decide,by rw[HOE.o];rfl⟩⟩
  ·rw[hs] at HOE;simp only[if_true] at HOE;have HSB:=hd hs;have HTR:=hd (trace_any body cb bs.length n A bs.length cap gs gA gc L AL sA sc (.slice B body.length bcap) av w3 HCO3.o HFO.o.fd hgl (by omega) hs);clear hs;go_wp2_with fail
   refine HTR.o.mono ?_
   rintro e w4 ⟨tb,BB,rfl,htb,hE,hT⟩;have HE4:=hd (HE3.o.trans hE);have HT4:=hd hT;have HCW4:=hd (show CodeW ⟨A,cap,bs,B,bcap,body⟩ w4 n cb from⟨gs,gA,gc,L,AL,sA,sc,av,HCO3.o.step hE (by simp) (Nat.le_refl n)⟩);have hw3e:=HE3.o.size;clear hE hT HTR;go_wp2_with fail
   go_ret2
   exact⟨HE4.o,.inr ⟨HOE.o,HCE.o,HSB.o,n,cb,tb,BB,rfl,by omega,by omega,HCW4.o,HT4.o⟩⟩
end
section
def NumR (H:Nat)(A:Option Addr)(vs:List Int)(w:World):Prop:=vs=[]\/∃(b:Nat) (C:Array Value),A=some ⟨b,0,none⟩/\H<=b/\Blk w b 3 C/\∀(i:Nat) (x:Int),vs[i]? = some x->C[i]? = some (.int .i64 x)
theorem NumR.ext {H:Nat}{A:Option Addr}{vs:List Int}{w w':World}(h:NumR H A vs w){S:List Nat}(hE:Ext S w w')(hS:∀b C,H<=b->Blk w b 3 C->b∉S):NumR H A vs w':=by
 rcases h with h|⟨b,C,h1,h2,h3,h4⟩
 ·exact .inl h
 ·exact .inr ⟨b,C,h1,h2,h3.ext hE (hS b C h2 h3),h4⟩
theorem NumR.ext0 {H:Nat}{A:Option Addr}{vs:List Int}{w w':World}(h:NumR H A vs w)(hE:Ext [] w w'):NumR H A vs w':=h.ext hE (by simp)
theorem NumR.low {H H':Nat}{A:Option Addr}{vs:List Int}{w:World}(h:NumR H A vs w)(hH:H'<=H):NumR H' A vs w:=by
 rcases h with h|⟨b,C,h1,h2,h3,h4⟩
 ·exact .inl h
 ·exact .inr ⟨b,C,h1,by omega,h3,h4⟩
theorem NumR.own {H:Nat}{A:Option Addr}{vs:List Int}{w w':World}(h:NumR H A vs w){base e s n:Nat}{v:Value}{l:List Value}(hR:w.ownsRow base e s v n l)(hne:e≠3)(hE:Ext v.ownBlock.toList w w'):NumR H A vs w':=h.ext hE fun b C _ hb hm=>by
 obtain⟨C',h6⟩:=own_blks hR (Option.mem_toList.1 hm);exact hne (h6.type hb)
set_option maxRecDepth 100000 in
theorem jClone_any (b o n cap:Nat)(vs:List Int)(w:World)(hb:b<w.heap.size)(hc:∀(i:Nat) (x:Int),vs[i]? = some x->w.cell? ⟨b,o+i,none⟩=some (.int .i64 x))(hl:vs.length=n)(h9:n<=1000000) :
  Calls Tryz.prog 41 #[.slice (some ⟨b,o,none⟩) n cap] w fun e w'=>∃A c,e=.returned (.slice A n c)/\NumR w.heap.size A vs w'/\Ext [] w w':=by
 by_cases h0:n=0
 ·subst h0;have hv:vs=[]:=List.length_eq_zero_iff.1 hl;obtain⟨i0,hi0,hz0,hz1,hz2⟩:=intInfo;have heq:∀W:World,(binOp .eql 22 (.slice (some ⟨b,o,none⟩) 0 cap) (.slice none 0 0)).run Tryz.prog W=.ok (.bool false) W:=fun W=>Go.Lib.run_eql_slice_nil (P:=Tryz.prog) (w:=W) (h:=Tryz.underlying22) ..
  have hB:Blk (w.alloc (.cells #[] 3)) w.heap.size 3 #[]:=Blk.new _ _ _
  obtain⟨w2,hr,hE⟩:∃w2,(∀ty,(Builtin.append_ #[22,22] ty #[.slice (some ⟨w.heap.size,0,none⟩) 0 0,.slice (some ⟨b,o,none⟩) 0 cap]).run Tryz.prog (w.alloc (.cells #[] 3))=.ok (.slice (some ⟨w.heap.size,0,none⟩) 0 0) w2)/\Ext [w.heap.size] (w.alloc (.cells #[] 3)) w2:=
   ⟨_,fun ty=>run_append_room (P:=Tryz.prog) _ 22 ty 3 i0 Tryz.underlying22 hi0 w.heap.size 0 0 _ hB ⟨b,o,none⟩ 0 cap [] (by simp) (by simp) (by simp) (by omega) (by simp),
    ⟨rfl,rfl,rfl,by simp[World.setRow],fun i _ hi=>setRow_other _ _ i _ (by simpa using hi)⟩⟩
  have HE:Hd (Ext [] w w2):=hd (((Ext.refl [] w).alloc _).step hE (fun x hx=>.inr (by rw[List.mem_singleton.1 hx];exact Nat.le_refl _)));clear hE hB;go_enter Tryz.func41,Tryz.ntmps41
  go_wp2_with (at_builtin;refine Lib.wpList_append_run _ rfl _ _ _ _ rfl _ _ rfl rfl _ _ (hr _) ?_)
  go_ret
  exact⟨_,_,rfl,.inl hv,by first|exact HE.out|exact(Ext.refl [] w).alloc _⟩
 ·obtain⟨i0,hi0,hz0,hz1,hz2⟩:=intInfo;have heq:∀W:World,(binOp .eql 22 (.slice (some ⟨b,o,none⟩) n cap) (.slice none 0 0)).run Tryz.prog W=.ok (.bool false) W:=fun W=>Go.Lib.run_eql_slice_nil (P:=Tryz.prog) (w:=W) (h:=Tryz.underlying22) ..
  have HH:=hd hc;have HL:=hd hl;clear hc;go_enter Tryz.func41,Tryz.ntmps41
  go_wp2_with (
   refine wpList_append_lies _ rfl _ _ 22 rfl w.heap.size 3 i0 _ 1 8 Tryz.underlying22 hi0 hz0 hz1 hz2 rfl (by decide) _ 0 [] rfl ?c0 ⟨b,o,none⟩ n cap (vs.map (Value.int .i64)) rfl (by simp;exact HL.o) ?c1 ?c2 (by omega) ?c3 ?c4 ?c5 _ rfl ?_
   case c0=>exact⟨rfl,.inr ⟨w.heap.size,0,#[],rfl,Nat.le_refl _,by show(w.heap.push _)[w.heap.size]? = _;simp,Nat.le_refl _,by decide,by simp,rfl⟩⟩
   case c1=>
    intro i x hx;rw[List.getElem?_map] at hx;cases hy:vs[i]? with
    | none=>rw[hy] at hx;cases hx
    | some y=>
     rw[hy] at hx;cases hx
     rw[Addr.add_mk];exact((Ext.refl [] w).alloc _).held (HH.o i y hy) (by simp)
   case c2=>intro u hu;obtain⟨y,-,rfl⟩:=List.mem_map.1 hu;rfl
   case c3=>unfold maxLen;omega
   case c4=>omega
   case c5=>simp
   intro g c8 w8 ho hg ha hlt;have HX:=hd (And.intro ho (And.intro hg ha));clear ho hg ha hlt)
  go_ret
  obtain⟨ho,hg,ha⟩:=HX.o;rw[Nat.zero_add,List.nil_append] at ho;obtain⟨C,hC⟩:=own_blk ho rfl;refine⟨_,_,rfl,.inr ⟨g,C,rfl,own_base ho g rfl,hC,fun i x hx=>?_⟩,((Ext.refl [] w).alloc _).grown hg (fun k hk=>.inr ?_)⟩
  ·rw[<-hC.cell];exact cell_row ho rfl (by rw[List.getElem?_map,hx];rfl)
  ·cases hk;exact Nat.le_refl _
def sApN (B e s n:Nat)(l:List Value)(X:List Value->Nat->World->Prop):Spec:=
 ⟨Nat×Nat,(0,0),fun u=>.slice (some ⟨u.1,0,none⟩) (n+1) u.2,fun u w=>∃ys,X ys u.1 w/\w.ownsRow B e s (.slice (some ⟨u.1,0,none⟩) (n+1) u.2) (n+1) (l ++ ys)⟩
section
variable {ops:Array Oper} {p:Nat} {S:Nat->Option Spec} {Q:Act->World->Prop} {k:Nat} {o:Oper} {rest:List Oper} {a:Act} {F:Nat->World->Prop} {w0:World} {T:List Nat} {ka:Nat}
theorem rel_appN (j b:Nat)(t B sz:Nat)(e:TypeId)(i:TypeInfo)(z:Value)(bytes:Nat)(v:Value)(n c:Nat)(l:List Value)(s x:Operand)(X9:Nat->List Value->World->Prop)(X:List Value->Nat->World->Prop)(V9:Nat->World->Prop)
  (hS:S k=some (sApN B e sz n l X)) (hgd:o.guard=none) (ho:o.op=.call {callee:=.builtin .append,args:=#[s,x],argTypes:=#[t,t] })
  (ht:Tryz.prog.underlying t=some (.slice e)) (hi:Tryz.prog.info? e=some i) (hz:i.zero=some z) (hsize:i.size=sz) (hby:i.bytes=bytes) (hzs:z.cells.size=sz) (hsz:0<sz)
  (hs:a.eval s=v) (hx:a.eval x=.slice (some ⟨b,0,none⟩) 1 c) (hT:T=v.ownBlock.toList) (hk:k=ka)
  (hv:∀w,Ext [] w0 w->w.ownsRow B e sz v n l)
  (hj:o.after.any (fun e=>Region.binds .any e&&e.on==j)=true) (hF:F j=V9 b) (hV9:∀w,V9 b w->∃us,us.length=1*sz/\(∀j u,us[j]? = some u->w.cell? ⟨b,j,none⟩=some u)/\(∀u∈us,u.oneCell'=true)/\X9 b us w)
  (hX:∀y g w w',X9 b y w->Ext T w w'->(v.ownBlock=some g\/g=w.heap.size)->g<w'.heap.size->X y g w')
  (h63:n+1<=maxLen) (hbytes:(n+1)*bytes<=140737488355328) (hbase:B<=w0.heap.size)
  (h:∀u:Nat×Nat,relAtU Tryz.prog ops p (JA w0 T ka) (RA1 T ka) S Q (k+1) rest (a.put o.dst (.slice (some ⟨u.1,0,none⟩) (n+1) u.2)) (upd F k ((sApN B e sz n l X).V u))) :
  relAtU Tryz.prog ops p (JA w0 T ka) (RA1 T ka) S Q k (o :: rest) a F:=by
 subst hT;subst hk;refine relAt_valueU _ hS (by simp[Region.wanted,hgd]) (fun w m hgo hJ hf=>?_) h
 have h9:=get_after hf j hj;rw[hF] at h9;obtain⟨us,hus,hu,hu1,hXu⟩:=hV9 w h9;obtain⟨g,cap,w',hr,hro,hg,hat,hlt⟩:=run_append_lies (P:=Tryz.prog) w t o.type B e i z sz bytes ht hi hz hsize hby hzs hsz v n l (hv w (hJ.pre hgo.mine)) ⟨b,0,none⟩ 1 c us hus (fun j u hj=>by rw[Addr.add_mk,Nat.zero_add];exact hu j u hj) hu1 (by decide) h63 hbytes (Nat.le_trans hbase hJ.all.size) _ rfl;have hE:Ext v.ownBlock.toList w w':=(Ext.refl _ w).grown hg (fun k hk=>.inl (by rw[hk];simp));refine⟨(g,cap),w',?_,⟨us,hX _ _ _ _ hXu hE hat hlt,hro⟩,hJ.app hE,by unfold RA1;rw[if_pos rfl];exact hE⟩
 unfold execOp;simp only[ho,resolve,invoke,builtin,Sem.run_bind,Sem.run_pure,Result.andThen_ok,List.map_toArray,List.map_cons,List.map_nil,hs,hx,hr];rfl
end
section
variable {P:Program} {ops:Array Oper} {p:Nat} {S:Nat->Option Spec} {Q:Act->World->Prop} {k:Nat} {o:Oper} {rest:List Oper} {a:Act} {F:Nat->World->Prop} {w0:World} {T:List Nat} {ka:Nat}
theorem rel_sayA (s:Spec)(x:s.α)(hS:S k=some s)(hw:Region.wanted o (yielded ops a.tmps)=true)(hk:k≠ka)
  (hr:∀w,(execOp a.eval o).run P w=.ok (.value (s.f x)) w)
  (hV:∀w r,Good ops k r->JA w0 T ka r w->(∀e∈o.after,Region.binds .any e=true->F e.on w)->s.V x w)
  (h:∀x:s.α,relAtU P ops p (JA w0 T ka) (RA1 T ka) S Q (k+1) rest (a.put o.dst (s.f x)) (upd F k (s.V x))):relAtU P ops p (JA w0 T ka) (RA1 T ka) S Q k (o :: rest) a F:=
 relAt_valueU s hS hw (fun w n hg hJ hf=>⟨x,w,hr w,hV w n hg hJ hf,hJ.offs hk,by unfold RA1;rw[if_neg hk];exact Ext.refl _ _⟩) h
end
theorem kinds_four {a b c d:Nat}{x y z q:Spec}{R:Nat->World->World->Prop}(hx:∀j,j≠a->∀u w w',R j w w'->x.V u w->x.V u w')(hy:∀j,j≠b->∀u w w',R j w w'->y.V u w->y.V u w')(hz:∀j,j≠c->∀u w w',R j w w'->z.V u w->z.V u w')(hq:∀j,j≠d->∀u w w',R j w w'->q.V u w->q.V u w') :
  ∀i s j,kinds [(a,x),(b,y),(c,z),(d,q)] i=some s->j≠i->∀u w w',R j w w'->s.V u w->s.V u w':=fun i s j h hj=>by
 have hm:=kinds_mem h;simp only[List.mem_cons,Prod.mk.injEq,List.not_mem_nil,or_false] at hm;rcases hm with⟨rfl,rfl⟩|⟨rfl,rfl⟩|⟨rfl,rfl⟩|⟨rfl,rfl⟩
 ·exact hx j hj
 ·exact hy j hj
 ·exact hz j hj
 ·exact hq j hj
structure InO where
 no:Nat
 vs:List Int
 A:Option Addr
 c:Nat
def ioC (x:InO):List Value:=[.int .i64 x.no,.slice x.A x.vs.length x.c]
def InO.key (x:InO):Nat×List Int:=(x.no,x.vs)
theorem ioInfo:∃i,Tryz.prog.info? 101=some i/\i.zero=some (.agg #[.int .i64 0,.slice none 0 0])/\i.size=2/\i.bytes=32:=info_parts (show((Tryz.prog).info? 101).map (fun i=>(i.zero,i.size,i.bytes))=some (some (.agg #[.int .i64 0,.slice none 0 0]),2,32) by kernel_rfl)
theorem io_slice (w:World)(x y:Value)(hx:x.cells=#[x])(hy:y.cells=#[y]):(Instr.buildSlice 51 1 #[(0,.agg #[x,y])]).run Tryz.prog w=.ok (.slice (some ⟨w.heap.size,0,none⟩) 1 1) (w.alloc (.cells #[x,y] 101)):=by
 obtain⟨i0,hi0,hz0,hz1,hz2⟩:=ioInfo;refine run_buildSlice w _ _ 1 _ _ i0 _ Tryz.underlying51 hi0 hz0 (by rw[hz1];decide) (by rw[hz1];decide) ?_
 rw[hz1];have hz:((Array.range (1*2)).map (fun x=>(Value.agg #[.int .i64 0,.slice none 0 0]).cells[x % (Value.agg #[.int .i64 0,.slice none 0 0]).cells.size]!))=#[.int .i64 0,.slice none 0 0]:=by kernel_rfl
 rw[hz];simp[Instr.fill,Value.cells]
def InsIn (H:Nat)(O:List InO)(w:World):Prop:=∀x∈O,NumR H x.A x.vs w
def InsAt (H:Nat)(v:Value)(O:List InO)(w:World):Prop:=O.length<=2000/\(∃B,H<=B/\w.ownsRow B 101 2 v O.length (O.flatMap ioC))/\InsIn H O w
def InstP (p:Pg)(w:World)(e:Ending)(w':World):Prop:=Ext [] w w'/\((orderE p≠0/\e=.returned (.tuple #[.slice none 0 0,.int .i64 (orderE p)]))\/
 (orderE p=0/\∃(O:List InO) (v:Value),e=.returned (.tuple #[v,.int .i64 0])/\O.map InO.key=keysB p.body/\InsAt w.heap.size v O w'))
def sClo (H n:Nat)(vs:List Int):Spec:=⟨Option Addr×Nat,(none,0),fun u=>.slice u.1 n u.2,fun u w=>NumR H u.1 vs w⟩
def sBu (H no n:Nat)(vs:List Int):Spec:=⟨Option Addr×Nat,(none,0),fun u=>.agg #[.int .i64 no,.slice u.1 n u.2],fun u w=>NumR H u.1 vs w⟩
def sIo (H no n:Nat)(vs:List Int):Spec:=⟨Nat,0,fun b=>.slice (some ⟨b,0,none⟩) 1 1,fun b w=>H<=b/\∃A c,NumR H A vs w/\∀j u,([.int .i64 no,.slice A n c]:List Value)[j]? = some u->w.cell? ⟨b,j,none⟩=some u⟩
def ioX (H no n:Nat)(vs:List Int)(L:Nat->Prop)(ys:List Value)(g:Nat)(w:World):Prop:=L g/\∃A c,NumR H A vs w/\ys=[.int .i64 no,.slice A n c]
theorem ios_len (O:List InO):(O.flatMap ioC).length=O.length*2:=by
 induction O with
 | nil=>rfl
 | cons t T ih=>rw[List.flatMap_cons,List.length_append,ih,List.length_cons,Nat.add_mul];simp[ioC];omega
theorem vAt_get {vs:List Int}{i:Nat}{x:Int}(h:vs[i]? = some x):vAt vs i=x:=by unfold vAt;rw[h];rfl
end
end Go.Proofs.YtfppibmloloakaaGreatDoor
