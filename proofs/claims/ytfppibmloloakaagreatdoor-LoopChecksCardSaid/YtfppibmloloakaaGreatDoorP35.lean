import Derived.Test.YtfppibmloloakaaGreatDoorP34
namespace Go.Proofs.YtfppibmloloakaaGreatDoor
open Go.RowKit Go.Proofs.Tryz
set_option linter.all false
def WkC (l:List St):Prop:=∀(f:FuncId) (caps:Array Value) (C:List Nat) (wb mb nb M:Nat) (I:List Inst->World->Prop) (w0 w:World) (A:Option Addr) (cap:Nat) (names:List ByteArray) (env:Env) (s no:Nat) (d:List Inst),
 SeeC f caps C w0.heap.size wb mb nb I->(∀x∈C,x<w.heap.size)->SeqIn w0 A 21 stC l->(∀s∈l,StIn w0 s)->(∀s∈l,Fd nb names s)->EnvG env names->Ext [] w0 w->
 Blk w wb 84 (wkA M s no (fnV f caps))->SMap w mb env->I d w->s<=M->M<=100000000->no+storesL l<=3000->cntL l<=3000->
  Calls Tryz.prog 38 #[.pointer (some ⟨wb,0,none⟩),.slice A l.length cap,.map (some mb)] w
   (PartP C wb mb M s (runNL env l) (storesL l) (2*cntL l) no (fnV f caps) (fun e=>e=env) I d (instL env no l) w)
set_option maxHeartbeats 16000000 in
set_option maxRecDepth 100000 in
theorem loopV_any (f:FuncId)(caps:Array Value)(C:List Nat)(wb mb nb M:Nat)(I:List Inst->World->Prop)(w0 w:World)(h:SH)(b:List St)(names:List ByteArray)(env:Env)(s no:Nat)(d:List Inst)
  (hS:SeeC f caps C w0.heap.size wb mb nb I) (hCo:∀x∈C,x<w.heap.size) (hX:StIn w0 (.mk h b)) (hF:Fd nb names (.mk h b)) (hk:h.k=1) (hv:h.vec=true) (hG:EnvG env names) (hE0:Ext [] w0 w)
  (hB:Blk w wb 84 (wkA M s no (fnV f caps))) (hM:SMap w mb env) (hI:I d w) (hs:s<=M) (hMx:M<=100000000) (hno:no+storesL b<=3000) (hcn:cntL b<=3000) :
  Calls Tryz.prog 90 #[.pointer (some ⟨wb,0,none⟩),stHV h b.length,.map (some mb)] w
   (PartP C wb mb M s (manyS h*(1+b.length)) (storesL b) (2*cntL b+1) no (fnV f caps) (fun e=>e=env) I d (instS env no (.mk h b)) w):=by
 obtain⟨hnm,hnv,hl8,hlo,hhi,hst,hv3,hFs⟩:nameB h.var=true/\hasS names h.var=false/\names.length<8/\(-100000<=h.lo/\h.lo<=100000)/\(-100000<=h.hi/\h.hi<=100000)/\(1<=h.step/\h.step<=100000)/\(h.vec=true->∀s∈b,s.h.k=3)/\∀s∈b,Fd nb (names ++ [h.var]) s:=by
  cases hF with
  | loop _ _ _ _ h1 h2 h3 h4 h5 h6 h7 h8=>exact⟨h1,h2,h3,h4,h5,h6,h7,h8⟩
  | when _ _ _ hk'=>omega
  | store _ _ hk'=>omega
 have hall:=hX.all;have HSL:=hd (stores_any (.mk h b));have HNO:=hd (show hasE env h.var=false by rw[hasE_names,hG.nam];exact hnv);have HSV:=hd hS;have HCO:=hd hCo;have HG:=hd hG;have HEL:Hd (env.length<=900):=hd (by have:=hG.len;omega);have HBR:=hd hall.2.2.2.2.2.2.1;have HST:=hd hall.2.2.2.2.2.2.2;have HZ:=hd hall.2.2.2.2.2.1;have HFS:=hd hFs;have HE0:=hd hE0;have hmy:manyS h<=200000:=manyS_le hlo hhi hst;have HR0:=hd (show MidR C wb mb M (fnV f caps) I w env h.var s no d w from⟨Ext.refl _ _,hB,⟨none,hM⟩,hI⟩);have HMAP0:=hd hM;have hwl:=hB.lt;have hml:=hM.lt;have hst0:storesL b<=3000:=by omega
 have hlen:storesL b=b.length:=stores_all (hv3 hv) hFs;have hlc:b.length<=cntL b:=by have:=stores_cntL b;omega
 have HVEC:=hd (fun w1 arr0=>vec_any f caps C wb mb nb M I w0 w1 h b names env s no d hS arr0 hX hF hk hv hG);have HIS:=hd (instS_vec (env:=env) (no:=no) (b:=b) hk hv);have HNOB:=hd (show no+b.length<=3000 by omega);clear hS hCo hX hF hG hE0 hB hM hI hall hnm hnv hFs hv3 hlen;rw[HIS.o];unfold stHV;obtain⟨a0,a1,a2,a3,a4,a5,a6,a7,-⟩:=stArr_get h b.length h.val.h h.val.ks.length;have HB0:=hd (Blk.new w 43 (stArr h b.length h.val.h h.val.ks.length));have HEx:=hd ((Ext.refl [] w).alloc (.cells (stArr h b.length h.val.h h.val.ks.length) 43));have HSZ:=hd (show(Tryz.prog.info? 43).map (·.size)=some (stArr h b.length h.val.h h.val.ks.length).size from infoSt);unfold stHV at HVEC;generalize manyS h=mn at *;generalize stArr h b.length h.val.h h.val.ks.length=arr at *;rw[hv] at a5;generalize hbn:b.length=bn at *;have HBN:=hd hbn;clear hbn;go_enter Tryz.func90,Tryz.ntmps90
 go_upto_region 1 with fail
 have HR1:=hd (HR0.o.grow HSV.o HEx.o);have hw1:(World.alloc w (.cells arr 43)).heap.size=w.heap.size+1:=alloc_sizeR _ _;generalize World.alloc w _=w1 at *;generalize hs0:w.heap.size=s0 at *
 have HBX:Hd (∀W,Ext (wb :: mb :: C) w1 W->Blk W s0 43 arr):=hd fun W hW=>HB0.o.ext hW (fun hm=>by
  rcases List.mem_cons.1 hm with h1|h1
  ·omega
  ·rcases List.mem_cons.1 h1 with h1|h1
   ·omega
   ·have:=HCO.o _ h1;omega)
 have HMAP:=hd (HMAP0.o.ext HEx.o List.not_mem_nil);have HR2:=hd (show MidR C wb mb M (fnV f caps) I w1 env h.var s no d w1 from⟨Ext.refl _ _,HR1.o.blk,HR1.o.map,HR1.o.inv⟩)
 have HE0W:Hd (∀W,Ext (wb :: mb :: C) w1 W->Ext [] w0 W):=hd fun W hW=>keep0 (HE0.o.trans HEx.o) hW fun x hx=>by
  rcases List.mem_cons.1 hx with h1|h1
  ·rw[h1];exact HSV.o.wlow
  ·rcases List.mem_cons.1 h1 with h1|h1
   ·rw[h1];exact HSV.o.mlow
   ·exact(HSV.o.low _ h1).1
 have hw01:=HEx.o.size;have q1:=HB0.o.cell;have ql:=HB0.o.lt;have qw:=HR2.o.blk.cell;unfold wkA at qw;have qwl:=HR2.o.blk.lt
 go_wp2_with (
  refine wpList_load_wide rfl 43 _ rfl s0 0 rfl arr HB0.o.wide _ Tryz.underlying43 rfl HSZ.o ?_)
 refine(HVEC.o w1 (fun x hx=>by have:=HCO.o x hx;omega) (HE0W.o _ (Ext.refl _ _)) HR2.o.blk HMAP.o HR2.o.inv hs hMx HNOB.o).mono ?_
 rintro e w2 ⟨rfl,st1,nt1,dt1,env',hE,hBk,hMp,⟨o1,rfl⟩,hIv,hn1,hn2,hR2⟩;have HRt:=hd (show MidR C wb mb M (fnV f caps) I w1 env h.var st1 nt1 dt1 w2 from⟨hE,hBk,⟨o1,hMp⟩,hIv⟩)
 have HQ:=hd (show Run2 M s (mn*(1+bn)) st1 (2*cntL b+1) d (vecI env h no b) dt1 by
  rcases hR2 with h1|⟨h1,h2,h3⟩
  ·exact .inl h1
  ·exact .inr ⟨h1,h2,by omega⟩)
 clear hE hBk hMp hIv hn1 hn2 hR2 q1 ql qw qwl;have HBt:=hd (HBX.o _ HRt.o.ext);have q1:=HBt.o.cell;have ql:=HBt.o.lt;obtain⟨o,hmo⟩:=HRt.o.map;have HMO:=hd hmo;clear hmo
 go_wp2_with (
  refine wpList_smap_drop _ rfl _ _ rfl mb env o h.var rfl HMO.o rfl HNO.o HZ.o ?_
  intro w9 hm9 hE9;have HM9:=hd hm9;have HR9:=hd (HRt.o.maps (o:=none) HSV.o hE9 hm9);have HB9:=hd (HBX.o _ HR9.o.ext);clear hm9 hE9 q1 ql;have q1:=HB9.o.cell;have ql:=HB9.o.lt)
 refine(HSL.o h.A bn h.cap _ (HBR.o.keep (HE0W.o _ HR9.o.ext)) (fun s hs=>(HST.o s hs).keep (HE0W.o _ HR9.o.ext)) HBN.o hst0).mono ?_
 rintro e w6 ⟨rfl,hE⟩;have HRa:=hd (HR9.o.grow HSV.o hE);have HMa:=hd (HM9.o.ext hE List.not_mem_nil);clear hE q1 ql;have hSB:storesL (St.mk h b).body=storesL b:=rfl;rw[hSB];generalize hsl:storesL b=sl at *;have HSLE:=hd hsl;clear hsl;have qw:=HRa.o.blk.cell;have qf:=HRa.o.blk.frozen;unfold wkA at qw qf;have qwl:=HRa.o.blk.lt;have HBl:=hd (HRa.o.blk.set_' 2 (.int .i64 (no+sl)) (wkA M st1 (no+sl:Nat) (fnV f caps)) rfl);have HEl:=hd (Ext.setAt (b:=wb) (i:=2) (u:=.int .i64 (no+sl)) (.inl (by simp)) (Ext.refl [wb] w6));have HRb:=hd (HRa.o.stepd HSV.o HEl.o HBl.o);have HMb:=hd (HMa.o.ext HEl.o (by rw[List.mem_singleton];exact Ne.symm HSV.o.apart));go_wp2_with fail
 refine bodyPost_end (results_none rfl _ _ _) rfl ⟨rfl,st1,no+sl,dt1,env,HEx.o.nil.trans HRb.o.ext,HRb.o.blk,HMb.o,rfl,HRb.o.inv,by rw[HSLE.o];exact Nat.le_refl _,fun _ _=>by rw[HSLE.o],HQ.o⟩
theorem sumN_mono {n m:Nat}(F:Nat->Nat)(h:n<=m):sumN n F<=sumN m F:=sumN_le F h
set_option maxHeartbeats 16000000 in
set_option maxRecDepth 100000 in
theorem loopF_any (f:FuncId)(caps:Array Value)(C:List Nat)(wb mb nb M:Nat)(I:List Inst->World->Prop)(w0 w:World)(h:SH)(b:List St)(names:List ByteArray)(env:Env)(s no:Nat)(d:List Inst)
  (hS:SeeC f caps C w0.heap.size wb mb nb I) (hCo:∀x∈C,x<w.heap.size) (hX:StIn w0 (.mk h b)) (hF:Fd nb names (.mk h b)) (hk:h.k=1) (hv:h.vec=false) (hG:EnvG env names) (hE0:Ext [] w0 w)
  (hB:Blk w wb 84 (wkA M s no (fnV f caps))) (hM:SMap w mb env) (hI:I d w) (hs:s<=M) (hMx:M<=100000000) (hno:no+storesL b<=3000) (hcn:cntL b<=3000)
  (ih:WkC b) :
  Calls Tryz.prog 90 #[.pointer (some ⟨wb,0,none⟩),stHV h b.length,.map (some mb)] w
   (PartP C wb mb M s (manyS h+sumN (manyS h) fun k=>runNL (envS env h k) b) (storesL b) (2*cntL b+1) no (fnV f caps) (fun e=>e=env) I d (instS env no (.mk h b)) w):=by
 obtain⟨hnm,hnv,hl8,hlo,hhi,hst,hv3,hFs⟩:nameB h.var=true/\hasS names h.var=false/\names.length<8/\(-100000<=h.lo/\h.lo<=100000)/\(-100000<=h.hi/\h.hi<=100000)/\(1<=h.step/\h.step<=100000)/\(h.vec=true->∀s∈b,s.h.k=3)/\∀s∈b,Fd nb (names ++ [h.var]) s:=by
  cases hF with
  | loop _ _ _ _ h1 h2 h3 h4 h5 h6 h7 h8=>exact⟨h1,h2,h3,h4,h5,h6,h7,h8⟩
  | when _ _ _ hk'=>omega
  | store _ _ hk'=>omega
 have hall:=hX.all;have HSL:=hd (stores_any (.mk h b));have HNO:=hd (show hasE env h.var=false by rw[hasE_names,hG.nam];exact hnv);have HSV:=hd hS;have HCO:=hd hCo;have HG:=hd hG;have HEL:Hd (env.length<=900):=hd (by have:=hG.len;omega);have HBR:=hd hall.2.2.2.2.2.2.1;have HST:=hd hall.2.2.2.2.2.2.2;have HZ:=hd hall.2.2.2.2.2.1;have HFS:=hd hFs;have HE0:=hd hE0;have hmy:manyS h<=200000:=manyS_le hlo hhi hst;have HR0:=hd (show MidR C wb mb M (fnV f caps) I w env h.var s no d w from⟨Ext.refl _ _,hB,⟨none,hM⟩,hI⟩);have hwl:=hB.lt;have hml:=hM.lt;have hst0:storesL b<=3000:=by omega
 have HGI:=hd (fun j hj=>hG.inner (k:=j) hl8 hnm (valS_bdd hlo hhi hst hj):∀j,j<manyS h->EnvG (envS env h j) (names ++ [h.var]));have HVL:=hd (fun k=>@valS_lt h k hst.1);have HVS:=hd (fun k=>valS_succ h k);have HVB:=hd (fun j hj=>valS_bdd (h:=h) (k:=j) hlo hhi hst hj);have hv0:valS h 0=h.lo:=by simp[valS]
 have HIS:=hd (instS_for (env:=env) (no:=no) (b:=b) hk hv);obtain⟨SN,hSN⟩:∃SN:Nat->Nat,∀j,SN j=sumN j fun k=>1+runNL (envS env h k) b:=⟨_,fun _=>rfl⟩
 obtain⟨CN,hCN⟩:∃CN:Nat->List Inst,∀j,CN j=catN j fun k=>instL (envS env h k) no b:=⟨_,fun _=>rfl⟩
 obtain⟨RN,hRN⟩:∃RN:Nat->Nat,∀j,RN j=runNL (envS env h j) b:=⟨_,fun _=>rfl⟩;obtain⟨IN,hIN⟩:∃IN:Nat->List Inst,∀j,IN j=instL (envS env h j) no b:=⟨_,fun _=>rfl⟩;have hSP:=sumN_plus (manyS h) fun k=>runNL (envS env h k) b
 have HSS:Hd (∀j,SN (j+1)=SN j+(1+RN j)):=hd fun j=>by rw[hSN,hSN,hRN];exact sumN_succ j _
 have HSM:Hd (∀j,j<=manyS h->SN j<=SN (manyS h)):=hd fun j hj=>by rw[hSN,hSN];exact sumN_mono _ hj
 have HCS:Hd (∀j,CN (j+1)=CN j ++ IN j):=hd fun j=>by rw[hCN,hCN,hIN];exact catN_succ j _
 have hs00:SN 0=0:=by rw[hSN];rfl
 have hc00:CN 0=[]:=by rw[hCN];rfl
 have HS00:=hd hs00;have HC00:=hd hc00;have HIH:=hd (fun W j (hj:j<manyS h) s' d' (hCo':∀x∈C,x<W.heap.size) hE' hB' hM' hI' hs'=>ih f caps C wb mb nb M I w0 W h.A h.cap (names ++ [h.var]) (envS env h j) s' no d' hS hCo' hall.2.2.2.2.2.2.1 hall.2.2.2.2.2.2.2 hFs (HGI.o j hj) hE' hB' hM' hI' hs' hMx hno hcn);simp only[<-hRN,<-hIN] at HIH;rw[HIS.o,<-hSP,<-hSN,<-hCN];clear hS hCo hX hF hG hE0 hB hM hI hall hnm hnv hFs hv3 hk hSP hSN hCN hRN hIN hs00 hc00 HIS;unfold stHV;obtain⟨a0,a1,a2,a3,a4,a5,a6,a7,-⟩:=stArr_get h b.length h.val.h h.val.ks.length;have HB0:=hd (Blk.new w 43 (stArr h b.length h.val.h h.val.ks.length));have HEx:=hd ((Ext.refl [] w).alloc (.cells (stArr h b.length h.val.h h.val.ks.length) 43));have HSZ:=hd (show(Tryz.prog.info? 43).map (·.size)=some (stArr h b.length h.val.h h.val.ks.length).size from infoSt);rw[<-hv0] at a2;generalize manyS h=mn at *;generalize hvf:valS h=V at *;have HVF:=hd hvf;clear hvf hv0;have HES:Hd (∀j,envS env h j=env ++ [(h.var,V j)]):=hd fun j=>by unfold envS;rw[HVF.o]
 simp only[HES.o] at HIH HGI;generalize stArr h b.length h.val.h h.val.ks.length=arr at *;rw[hv] at a5;generalize hbn:b.length=bn at *;have HBN:=hd hbn;clear hbn;go_enter Tryz.func90,Tryz.ntmps90
 go_upto_region 1 with fail
 have HR1:=hd (HR0.o.grow HSV.o HEx.o);have hw1:(World.alloc w (.cells arr 43)).heap.size=w.heap.size+1:=alloc_sizeR _ _;generalize World.alloc w _=w1 at *;generalize hs0:w.heap.size=s0 at *
 have HBX:Hd (∀W,Ext (wb :: mb :: C) w1 W->Blk W s0 43 arr):=hd fun W hW=>HB0.o.ext hW (fun hm=>by
  rcases List.mem_cons.1 hm with h1|h1
  ·omega
  ·rcases List.mem_cons.1 h1 with h1|h1
   ·omega
   ·have:=HCO.o _ h1;omega)
 have HR2:=hd (show MidR C wb mb M (fnV f caps) I w1 env h.var s no d w1 from⟨Ext.refl _ _,HR1.o.blk,HR1.o.map,HR1.o.inv⟩)
 have HE0W:Hd (∀W,Ext (wb :: mb :: C) w1 W->Ext [] w0 W):=hd fun W hW=>keep0 (HE0.o.trans HEx.o) hW fun x hx=>by
  rcases List.mem_cons.1 hx with h1|h1
  ·rw[h1];exact HSV.o.wlow
  ·rcases List.mem_cons.1 h1 with h1|h1
   ·rw[h1];exact HSV.o.mlow
   ·exact(HSV.o.low _ h1).1
 have hw01:=HEx.o.size;have q1:=HB0.o.cell;have ql:=HB0.o.lt;have qw:=HR2.o.blk.cell;unfold wkA at qw;have qwl:=HR2.o.blk.lt;go_upto_block 0 with fail
 go_cut [] (fun wx=>∃(st1 nt1:Nat) (dt1:List Inst),Hd (MidR C wb mb M (fnV f caps) I w1 env h.var st1 nt1 dt1 wx)/\Hd (Run2 M s (SN mn) st1 (2*cntL b+1) d (CN mn) dt1))
 case first=>
  go_wp2_with fail
  clear q1 ql qw qwl;go_loopw [7] (fun x wr=>∃(j s3 no3:Nat) (d3:List Inst),x=.int .i64 (V j)/\j<=mn/\Hd (MidR C wb mb M (fnV f caps) I w1 env h.var s3 no3 d3 wr)/\no3<=3000/\Hd (Run2 M s (SN j) s3 (2*cntL b) d (CN j) d3)) (fun x _=>(200000-intOf x).toNat)
  case atStart=>exact⟨0,s,no,d,rfl,Nat.zero_le _,HR2,by omega,hd (.inl ⟨by rw[HS00.o];rfl,by rw[HS00.o];exact hs,by rw[HC00.o];simp⟩)⟩
  case round=>
   obtain⟨j,s3,no3,d3,rfl,hj,HR,hno3,HOJ⟩:=hrel;rename World=>wq
   have HBq:=hd (HBX.o _ HR.o.ext);have q1:=HBq.o.cell;have ql:=HBq.o.lt;have hs3:s3<=1000000000:=by rcases HOJ.o with⟨h1,h2,-⟩|⟨h1,h2,h3⟩<;>omega
   by_cases hlt:j<mn
   ·have e1:V j<h.hi:=(HVL.o j).2 hlt;have hvb:=HVB.o j hlt;unfold Bdd at hvb;have hvs:=HVS.o j;go_wp2_with fail
    refine(stepN_any wb M s3 no3 _ _ HR.o.blk hs3 (by omega)).mono ?_
    rintro e w' ⟨rfl,hE,hB⟩;have HRn:=hd (HR.o.stepd HSV.o hE hB);have HBn:=hd (HBX.o _ HRn.o.ext);clear hE hB q1 ql;have q1:=HBn.o.cell;have ql:=HBn.o.lt;by_cases hst1:s3+1<=M
    ·have e2:decide (s3+1<=M)=true:=by simpa using hst1
     rw[e2]
     have HOJ2:=hd (show s3=s+SN j/\d3=d ++ CN j by
      rcases HOJ.o with⟨h1,h2,h3⟩|⟨h1,h2,h3⟩
      ·exact⟨h1,h3⟩
      ·omega)
     obtain⟨o,hmo⟩:=HRn.o.map;have HMO:=hd hmo;clear hmo
     go_upto_region 8 with(
      refine wpList_smap_store _ rfl _ _ _ rfl mb env o h.var (V j) rfl HMO.o rfl rfl HNO.o HZ.o (by omega) HEL.o ?_
      intro w9 hm9 hE9;have HM9:=hd hm9;have HR9:=hd (HRn.o.maps (o:=some (V j)) HSV.o hE9 hm9);clear hm9 hE9 q1 ql)
     simp only[Act.put,List.setIfInBounds_toArray,List.set_cons_succ,List.set_cons_zero];have qw:=HR9.o.blk.cell;have qf:=HR9.o.blk.frozen;unfold wkA at qw qf;have qwl:=HR9.o.blk.lt;have HBl:=hd (HR9.o.blk.set_' 2 (.int .i64 no) (wkA M (s3+1:Nat) no (fnV f caps)) rfl);have HEl:=hd (Ext.setAt (b:=wb) (i:=2) (u:=.int .i64 no) (.inl (by simp)) (Ext.refl [wb] w9));have HR10:=hd (HR9.o.stepd HSV.o HEl.o HBl.o);have HM10:=hd (HM9.o.ext HEl.o (by rw[List.mem_singleton];exact Ne.symm HSV.o.apart));go_upto_region 9 with fail
     generalize World.setCell _ _ _=w10 at *;clear qw qf qwl HBl HEl;have HBs:=hd (HBX.o _ HR10.o.ext);have q1:=HBs.o.cell;have ql:=HBs.o.lt;go_wp2_with fail
     have hw10:=HR10.o.ext.size;have HCALL:=hd (HIH.o w10 j hlt (s3+1) d3 (fun x hx=>by have:=HCO.o x hx;omega) (HE0W.o _ HR10.o.ext) HR10.o.blk HM10.o HR10.o.inv hst1);refine HCALL.o.mono ?_
     rintro e w11 ⟨rfl,st2,nt2,dt2,env',hE,hBk,hMp,rfl,hIv,hn1,-,hR2⟩;have HR11:=hd (show MidR C wb mb M (fnV f caps) I w1 env h.var st2 nt2 dt2 w11 from⟨HR10.o.ext.trans hE,hBk,⟨some (V j),hMp⟩,hIv⟩);have HRR:=hd hR2;have HB11:=hd (HBX.o _ HR11.o.ext);clear hE hBk hMp hIv hR2 q1 ql HCALL;have q1:=HB11.o.cell;have ql:=HB11.o.lt;go_wp2_with fail
     go_roundw
     case rel=>
      refine⟨j+1,st2,nt2,dt2,rfl,by omega,HR11,by omega,hd ?_⟩
      have h4:=HSS.o j;have h5:=HOJ2.o.1;rcases HRR.o with⟨h1,h2,h3⟩|⟨h1,h2,h3⟩
      ·exact .inl ⟨by omega,by omega,by rw[HCS.o,h3,HOJ2.o.2,List.append_assoc]⟩
      ·exact .inr ⟨by omega,by omega,h3⟩
     case measure=>simp[intOf];omega
    ·have e2:decide (s3+1<=M)=false:=by simpa using hst1
     rw[e2];go_wp2_with fail
     go_meet
     refine⟨s3+1,no3,d3,HRn,hd (.inr ?_)⟩
     have h4:=HSS.o j;have h5:=HSM.o (j+1) (by omega);have h6:=HSM.o j hj;rcases HOJ.o with⟨h1,h2,h3⟩|⟨h1,h2,h3⟩
     ·exact⟨by omega,by omega,by omega⟩
     ·exact⟨by omega,by omega,by omega⟩
   ·have hjn:j=mn:=by omega
    subst hjn;have e0:¬V j<h.hi:=fun hh=>hlt ((HVL.o j).1 hh)
    have e1:decide (V j<h.hi)=false:=by simpa using e0
    clear e0;go_wp2_with fail
    go_meet
    refine⟨s3,no3,d3,HR,hd ?_⟩
    rcases HOJ.o with h1|⟨h1,h2,h3⟩
    ·exact .inl h1
    ·exact .inr ⟨h1,h2,by omega⟩
 case rest=>
  obtain⟨st1,nt1,dt1,HRt,HQ⟩:=hcut;clear q1 ql qw qwl;have HBt:=hd (HBX.o _ HRt.o.ext);have q1:=HBt.o.cell;have ql:=HBt.o.lt;obtain⟨o,hmo⟩:=HRt.o.map;have HMO:=hd hmo;clear hmo
  go_wp2_with (
   refine wpList_smap_drop _ rfl _ _ rfl mb env o h.var rfl HMO.o rfl HNO.o HZ.o ?_
   intro w9 hm9 hE9;have HM9:=hd hm9;have HR9:=hd (HRt.o.maps (o:=none) HSV.o hE9 hm9);have HB9:=hd (HBX.o _ HR9.o.ext);clear hm9 hE9 q1 ql;have q1:=HB9.o.cell;have ql:=HB9.o.lt)
  refine(HSL.o h.A bn h.cap _ (HBR.o.keep (HE0W.o _ HR9.o.ext)) (fun s hs=>(HST.o s hs).keep (HE0W.o _ HR9.o.ext)) HBN.o hst0).mono ?_
  rintro e w6 ⟨rfl,hE⟩;have HRa:=hd (HR9.o.grow HSV.o hE);have HMa:=hd (HM9.o.ext hE List.not_mem_nil);clear hE q1 ql;have hSB:storesL (St.mk h b).body=storesL b:=rfl;rw[hSB];generalize hsl:storesL b=sl at *;have HSLE:=hd hsl;clear hsl;have qw:=HRa.o.blk.cell;have qf:=HRa.o.blk.frozen;unfold wkA at qw qf;have qwl:=HRa.o.blk.lt;have HBl:=hd (HRa.o.blk.set_' 2 (.int .i64 (no+sl)) (wkA M st1 (no+sl:Nat) (fnV f caps)) rfl);have HEl:=hd (Ext.setAt (b:=wb) (i:=2) (u:=.int .i64 (no+sl)) (.inl (by simp)) (Ext.refl [wb] w6));have HRb:=hd (HRa.o.stepd HSV.o HEl.o HBl.o);have HMb:=hd (HMa.o.ext HEl.o (by rw[List.mem_singleton];exact Ne.symm HSV.o.apart));go_wp2_with fail
  refine bodyPost_end (results_none rfl _ _ _) rfl ⟨rfl,st1,no+sl,dt1,env,HEx.o.nil.trans HRb.o.ext,HRb.o.blk,HMb.o,rfl,HRb.o.inv,by rw[HSLE.o];exact Nat.le_refl _,fun _ _=>by rw[HSLE.o],HQ.o⟩
section
theorem enters_condR:∀args w,(callFunc 88 args).run Tryz.prog w=.ok (.enter 88 args) w:=by
 obtain⟨c,hc⟩:∃c,Tryz.f88.body=some c:=⟨_,rfl⟩;exact fun args w=>enters_of Tryz.func88 (by kernel_rfl) hc args w
set_option maxRecDepth 100000 in
theorem condR_any (a:Af)(vb mb:Nat)(env:Env)(w:World)(ha:AfIn w a)(hg:AfG a)(hm:SMap w mb env)(he:∀p∈env,Bdd p.2)(hv:Blk w vb 85 #[.map (some mb)]) :
  Calls Tryz.prog 88 (#[afV a] ++ #[.pointer (some ⟨vb,0,none⟩)]) w (HasP (!decide (0<=evA env a)) w):=by
 have HAT:=hd (fun W (hW:Ext [] w W)=>atR_any a mb env W (ha.keep hW) hg (hm.ext hW List.not_mem_nil) he);have qv:=hv.cell;have qvl:=hv.lt;clear ha hg hm he hv;generalize evA env a=E at *;obtain⟨y0,y1,y2,y3⟩:=a;dsimp only[afV] at *;generalize y3.length=m at *;have HE0:=hd ((Ext.refl [] w).alloc (.cells #[.int .i64 y0,.slice y1 m y2] 38));go_enter Tryz.func88,Tryz.ntmps88
 go_wp2_with fail
 refine(HAT.o _ HE0.o).mono ?_
 rintro r w1 ⟨rfl,hE⟩;have HE1:=hd (HE0.o.trans hE);clear hE;go_wp2_with fail
 go_ret
 exact⟨ret_bool (by by_cases h:E<0<;>simp[h]<;>omega),HE1.o⟩
theorem any_holds (env:Env)(l:List Af):(l.any fun a=>!decide (0<=evA env a)) = !(l.all fun a=>decide (0<=evA env a)):=by
 induction l with
 | nil=>rfl
 | cons a l ih=>simp only[List.any_cons,List.all_cons,ih,Bool.not_and]
def MidB (M s no:Nat)(env:Env)(l:List St)(d:List Inst)(s2 no2:Nat)(d2:List Inst):Prop:=
 no2<=no+storesL l/\((s2=s+runNL env l/\s2<=M/\d2=d ++ instL env no l/\no2=no+storesL l)\/(M<s+runNL env l/\M<s2/\s2<=M+2*cntL l))
theorem cntL_le {l:List St}{j:Nat}:cntL (l.take j)<=cntL l:=by
 have:=cntL_append (l.take j) (l.drop j);rw[List.take_append_drop] at this;omega
section
variable {M s no s2 no2 s3 no3 k:Nat} {env:Env} {l:List St} {d d2 d3:List Inst} {x:St}
theorem midB_next (hx:l[k]? = some x)(hK:MidB M s no env (l.take k) d s2 no2 d2)(hm:s2+1<=M)(hq:no3<=no2+storesS x)(hr:(s3=s2+runN env x/\s3<=M/\d3=d2 ++ instS env no2 x/\no3=no2+storesS x)\/(M<s2+runN env x/\M<s3/\s3<=M+2*cntS x)):MidB M s no env (l.take (k+1)) d s3 no3 d3:=by
 obtain⟨h1,h2⟩:=hK;unfold MidB;rw[storesL_take hx,runNL_take hx,instL_take hx,cntL_take hx];rcases h2 with⟨a1,a2,a3,a4⟩|⟨a1,a2,a3⟩
 ·refine⟨by omega,?_⟩
  rcases hr with⟨b1,b2,b3,b4⟩|⟨b1,b2,b3⟩
  ·exact .inl ⟨by omega,b2,by rw[b3,a3,a4,List.append_assoc],by omega⟩
  ·exact .inr ⟨by omega,b2,by omega⟩
 ·omega
theorem midB_stop (hx:l[k]? = some x)(hK:MidB M s no env (l.take k) d s2 no2 d2)(hm:¬s2+1<=M):no2<=no+storesL l/\(s2+1=s+runNL env l->s+runNL env l<=M->no2=no+storesL l)/\Run2 M s (runNL env l) (s2+1) (2*cntL l) d (instL env no l) d2:=by
 obtain⟨h1,h2⟩:=hK;have e1:=storesL_le hx;have e2:runNL env (l.take (k+1))<=runNL env l:=runNL_le;have e3:cntL (l.take (k+1))<=cntL l:=cntL_le;rw[runNL_take hx] at e2;rw[cntL_take hx] at e3;have e4:=runN_pos env x;refine⟨by omega,fun h=>by omega,.inr ?_⟩
 rcases h2 with⟨a1,a2,a3,a4⟩|⟨a1,a2,a3⟩<;>exact⟨by omega,by omega,by omega⟩
theorem midB_end (hK:MidB M s no env l d s2 no2 d2):no2<=no+storesL l/\(s2=s+runNL env l->s+runNL env l<=M->no2=no+storesL l)/\Run2 M s (runNL env l) s2 (2*cntL l) d (instL env no l) d2:=by
 obtain⟨h1,h2⟩:=hK;rcases h2 with⟨a1,a2,a3,a4⟩|⟨a1,a2,a3⟩
 ·exact⟨h1,fun _ _=>a4,.inl ⟨a1,by omega,a3⟩⟩
 ·exact⟨h1,fun h=>by omega,.inr ⟨a1,a2,by omega⟩⟩
end
set_option maxHeartbeats 16000000 in
set_option maxRecDepth 100000 in
theorem wbody_list (l:List St)(ih:∀s∈l,WkC s.body):WkC l:=by
 intro f caps C wb mb nb M I w0 w A cap names env s no d hS hCo hR hSt hF hG hE0 hB hM hI hs hMx hno hcn;have hn9:l.length<=1000000:=hR.1;have HIH:=hd ih;have HSV:=hd hS;have HCO:=hd hCo;have HR:=hd hR;have HST:=hd hSt;have HFD:=hd hF;have HG:=hd hG;have HE0:=hd hE0;have HNO:=hd hno;have HCN:=hd hcn;have hwl:=hB.lt;have hml:=hM.lt;have HM0:=hd hM;have HR0:=hd (show MidR C wb mb M (fnV f caps) I w env ⟨#[]⟩ s no d w from⟨Ext.refl _ _,hB,⟨none,hM⟩,hI⟩);clear ih hS hCo hR hSt hF hG hE0 hB hM hI hno hcn;generalize hn:l.length=n at *;have HN:=hd hn;clear hn;have HB0:=hd (Blk.new w 85 #[.map (some mb)]);have HEx:=hd ((Ext.refl [] w).alloc (.cells #[.map (some mb)] 85));go_enter Tryz.func38,Tryz.ntmps38
 go_upto_region 1 with fail
 have HR1:=hd (HR0.o.grow HSV.o HEx.o);have HM1:=hd (HM0.o.ext HEx.o List.not_mem_nil);have hw1:(World.alloc w (.cells #[.map (some mb)] 85)).heap.size=w.heap.size+1:=alloc_sizeR _ _;generalize World.alloc w _=w1 at *;generalize hs0:w.heap.size=s0 at *
 have HBX:Hd (∀W,Ext (wb :: mb :: C) w1 W->Blk W s0 85 #[.map (some mb)]):=hd fun W hW=>HB0.o.ext hW (fun hm=>by
  rcases List.mem_cons.1 hm with h1|h1
  ·omega
  ·rcases List.mem_cons.1 h1 with h1|h1
   ·omega
   ·have:=HCO.o _ h1;omega)
 have HR2:=hd (show MidR C wb mb M (fnV f caps) I w1 env ⟨#[]⟩ s no d w1 from⟨Ext.refl _ _,HR1.o.blk,HR1.o.map,HR1.o.inv⟩)
 have HE0W:Hd (∀W,Ext (wb :: mb :: C) w1 W->Ext [] w0 W):=hd fun W hW=>keep0 (HE0.o.trans HEx.o) hW fun x hx=>by
  rcases List.mem_cons.1 hx with h1|h1
  ·rw[h1];exact HSV.o.wlow
  ·rcases List.mem_cons.1 h1 with h1|h1
   ·rw[h1];exact HSV.o.mlow
   ·exact(HSV.o.low _ h1).1
 have hw01:=HEx.o.size;clear HR0 HR1 HM0;go_wp2_with fail
 go_loopw [11] (fun i wr=>∃(k s2 no2:Nat) (d2:List Inst),i=.int .i64 k/\k<=n/\Hd (MidR C wb mb M (fnV f caps) I w1 env ⟨#[]⟩ s2 no2 d2 wr)/\Hd (SMap wr mb env)/\Hd (MidB M s no env (l.take k) d s2 no2 d2)) (fun i _=>(n-intOf i).toNat)
 case atStart=>exact⟨0,s,no,d,rfl,Nat.zero_le _,HR2,HM1,hd ⟨by simp,.inl ⟨by simp[runNL],hs,by simp[instL],by simp[storesL]⟩⟩⟩
 case round=>
  obtain⟨k,s2,no2,d2,rfl,hk,HRk,HMk,HK⟩:=hrel;rename World=>wq
  by_cases hlt:k<n
  ·obtain⟨bb,x,rfl,hx,hc⟩:=(HR.o.keep (HE0W.o _ HRk.o.ext)).at (i:=k) (by have:=HN.o;omega);obtain⟨h,b⟩:=x;have HXK:=hd hx;have hmem:=List.mem_of_getElem? hx;have hFd:=HFD.o _ hmem;have HXS:=hd (HST.o _ hmem);have hIB:WkC b:=HIH.o _ hmem;have hcl:cntL (l.take (k+1))<=cntL l:=cntL_le;rw[cntL_take hx,show cntS (.mk h b)=1+cntL b by rw[cntS]] at hcl;have hcb:cntL b<=3000:=by have:=HCN.o;omega
   have hsl:=storesL_le hx;have hnk:no2+storesS (.mk h b)<=3000:=by have h1:=HNO.o;have h2:=HK.o.1;omega
   have HNEXT:=hd (fun(hm:s2+1<=M) s3 no3 d3=>midB_next (s3:=s3) (no3:=no3) (d3:=d3) hx HK.o hm);have HSTOP:=hd (midB_stop hx HK.o);have hs2:s2<=1000000000:=by have h9:=HCN.o;rcases HK.o.2 with⟨h1,h2,-⟩|⟨h1,h2,h3⟩<;>omega
   have HW:=hd (fun j v hv=>hc j v hv:∀(j:Nat) (v:Value),(stArr h b.length h.val.h h.val.ks.length).toList[j]? = some v->wq.cell? ⟨bb,k*21+j,none⟩=some v);have HB2:=hd (Blk.new wq 43 (stArr h b.length h.val.h h.val.ks.length));have HEx2:=hd ((Ext.refl [] wq).alloc (.cells (stArr h b.length h.val.h h.val.ks.length) 43));obtain⟨a0,a1,a2,a3,a4,a5,a6,a7,-⟩:=stArr_get h b.length h.val.h h.val.ks.length;have HSZ:=hd (show(Tryz.prog.info? 43).map (·.size)=some (stArr h b.length h.val.h h.val.ks.length).size from infoSt);have HZS:=hd (show zSt.size=(stArr h b.length h.val.h h.val.ks.length).size from rfl);have HON:=hd (stArr_one h b.length h.val.h h.val.ks.length)
   have hkind:(h.k=3/\b=[])\/(h.k=2/\(∀a∈h.conds,affE names a=0)/\∀s∈b,Fd nb names s)\/h.k=1:=by
    cases hFd with
    | loop _ _ _ hk'=>exact .inr (.inr hk')
    | when _ _ _ hk' _ h1 _ h2=>exact .inr (.inl ⟨hk',h1,h2⟩)
    | store _ _ hk'=>exact .inl ⟨hk',rfl⟩
   have HLOOP:=hd (fun(hk1:h.k=1) (hno':no2+storesL b<=3000) W (hCo:∀x∈C,x<W.heap.size) (hE:Ext [] w0 W) (hB:Blk W wb 84 (wkA M (s2+1:Nat) no2 (fnV f caps))) (hM:SMap W mb env) (hI:I d2 W) (hs':s2+1<=M)=>show ∃N,runN env (.mk h b)=1+N/\Calls Tryz.prog 90 #[.pointer (some ⟨wb,0,none⟩),stHV h b.length,.map (some mb)] W
     (PartP C wb mb M (s2+1) N (storesL b) (2*cntL b+1) no2 (fnV f caps) (fun e=>e=env) I d2 (instS env no2 (.mk h b)) W) from by
    cases hv:h.vec
    ·exact⟨_,runN_for hk1 hv,loopF_any f caps C wb mb nb M I w0 W h b names env (s2+1) no2 d2 HSV.o hCo HXS.o hFd hk1 hv HG.o hE hB hM hI hs' hMx hno' hcb hIB⟩
    ·exact⟨_,runN_vec hk1 hv,loopV_any f caps C wb mb nb M I w0 W h b names env (s2+1) no2 d2 HSV.o hCo HXS.o hFd hk1 hv HG.o hE hB hM hI hs' hMx hno' hcb⟩)
   have HSEE:=hd (fun(hk3:h.k=3) (hb:b=[]) W (hI:I d2 W) (hE:Ext [] w0 W) (hM:SMap W mb env) (h3:no2<=3000)=>show Calls Tryz.prog f (#[stHV h b.length,.int .i64 no2,.map (some mb)] ++ caps) W fun e w'=>e=.returned (.tuple #[])/\Ext C W w'/\I (d2 ++ [⟨no2,h,env⟩]) w' from by
    subst hb;exact HSV.o.call d2 h no2 names env W hI (HXS.o.keep hE) hFd hk3 hM HG.o h3)
   have HSL:=hd (stores_any (.mk h b));clear hx hc hmem hFd hcl hsl;unfold stHV at HLOOP HSEE;generalize stArr h b.length h.val.h h.val.ks.length=arr at *;generalize hbn:b.length=bn at *;have HBN:=hd hbn;clear hbn;have hwqs:=HRk.o.ext.size;go_upto_block 1 with fail
   go_cut [] (fun wx=>∃(s3 no3:Nat) (d3:List Inst),Hd (MidR C wb mb M (fnV f caps) I w1 env ⟨#[]⟩ s3 no3 d3 wx)/\Hd (SMap wx mb env)/\Hd (MidB M s no env (l.take (k+1)) d s3 no3 d3))
   case first=>
    go_wp2_with (first
     | refine wpList_load_wide rfl 43 _ rfl bb (k*21) rfl arr HW.o _ Tryz.underlying43 rfl HSZ.o ?_
     | refine wpList_make_wide rfl rfl 43 _ _ rfl rfl zSt (zSt_run _) arr rfl rfl HSZ.o HZS.o HON.o ?_)
    have HR4:=hd (HRk.o.grow HSV.o HEx2.o);have HM4:=hd (HMk.o.ext HEx2.o List.not_mem_nil);have HX12:=hd HR4.o.ext;generalize World.alloc wq _=w2 at *;generalize hsb:wq.heap.size=sb at *
    have HBX2:Hd (∀W,Ext (wb :: mb :: C) w2 W->Blk W sb 43 arr):=hd fun W hW=>HB2.o.ext hW (fun hm=>by
     rcases List.mem_cons.1 hm with h1|h1
     ·omega
     ·rcases List.mem_cons.1 h1 with h1|h1
      ·omega
      ·have:=HCO.o _ h1;omega)
    clear HW HZS HON HB2;refine(stepN_any wb M s2 no2 _ _ HR4.o.blk hs2 (by omega)).mono ?_
    rintro e w3 ⟨rfl,hE,hB⟩;have HR5:=hd (HR4.o.stepd HSV.o hE hB);have HM5:=hd (HM4.o.ext hE (by rw[List.mem_singleton];exact Ne.symm HSV.o.apart));have HX23:Hd (Ext (wb :: mb :: C) w2 w3):=hd ((Ext.refl _ _).step hE fun x hx=>.inl (by rw[List.mem_singleton.1 hx];exact List.mem_cons_self ..));clear hE hB;by_cases hst1:s2+1<=M
    ·have e2:decide (s2+1<=M)=true:=by simpa using hst1
     rw[e2];have qb:=(HBX2.o _ HX23.o).cell;have qbl:=(HBX2.o _ HX23.o).lt;have HNX:=hd (HNEXT.o hst1);clear HNEXT HSTOP;rcases hkind with⟨hk3,hb0⟩|⟨hk2,hcd,hfb⟩|hk1
     ·have HSE:=hd (HSEE.o hk3 hb0);have HRN:=hd (show runN env (.mk h b)=1 from runN_store hk3);have HIN:=hd (show instS env no2 (.mk h b)=[⟨no2,h,env⟩] from instS_store hk3);have HSN:=hd (show storesS (.mk h b)=1 by subst hb0;rw[storesS,if_pos hk3];rfl);have hn3:no2<=3000:=by omega
      clear HSEE HLOOP;rw[hk3] at a0;clear hk3 hb0;go_wp2_with fail
      refine wp_region_rel 10 (JE _) (Ext []) (kinds []) (by kernel_rfl) (by kernel_rfl) JE.less ?_ JE.start ?_
      ·repeat(first|exact Stays.nil|refine Stays.cons sFix.stays ?_)
      simp only[List.take_succ_cons,List.take_zero,List.drop_succ_cons,List.drop_zero]
      repeat
       refine relAt_det rfl rfl ?_
       apply Exists.intro
       refine⟨fun wr nr hJ=>?_,?_⟩
       ·have qw:=(HR5.o.blk.ext hJ (by simp)).cell;unfold wkA fnV at qw;have qwl:=(HR5.o.blk.ext hJ (by simp)).lt;clear hJ;(go_simp;try go_bits)
        first|rfl|exact⟨rfl,rfl⟩
       simp only[Act.put,List.setIfInBounds_toArray,List.set_cons_succ,List.set_cons_zero]
      refine relAt_det rfl rfl ?_
      apply Exists.intro
      refine⟨fun wr nr hJ=>?_,?_⟩
      ·exact exec_load_wide 43 _ rfl sb 0 rfl arr ((HBX2.o _ HX23.o).ext hJ (by simp)).wide _ Tryz.underlying43 rfl HSZ.o
      simp only[Act.put,List.setIfInBounds_toArray,List.set_cons_succ,List.set_cons_zero]
      repeat
       refine relAt_det rfl rfl ?_
       apply Exists.intro
       refine⟨fun wr nr hJ=>?_,?_⟩
       ·have qw:=(HR5.o.blk.ext hJ (by simp)).cell;unfold wkA fnV at qw;have qwl:=(HR5.o.blk.ext hJ (by simp)).lt;have qv:=((HBX.o _ HR5.o.ext).ext hJ (by simp)).cell;have qvl:=((HBX.o _ HR5.o.ext).ext hJ (by simp)).lt;clear hJ;(go_simp;try go_bits)
        first|rfl|exact⟨rfl,rfl⟩
       simp only[Act.put,List.setIfInBounds_toArray,List.set_cons_succ,List.set_cons_zero]
      refine relAt_nil (fun w5 hJ hF=>?_)
      have HR6:=hd (HR5.o.grow HSV.o hJ);have HM6:=hd (HM5.o.ext hJ List.not_mem_nil);clear hF hJ qb qbl;go_wp2_with fail
      rw[HSV.o.enters,Oper.upon_enter];refine(HSE.o _ HR6.o.inv (HE0W.o _ HR6.o.ext) HM6.o hn3).mono ?_
      rintro e w6 ⟨rfl,hE,hI⟩;have HR7:=hd (HR6.o.seen HSV.o hE hI);have HM7:=hd (HM6.o.ext hE HSV.o.wC.2);clear hE hI;have qw:=HR7.o.blk.cell;have qf:=HR7.o.blk.frozen;unfold wkA at qw qf;have qwl:=HR7.o.blk.lt;have HBl:=hd (HR7.o.blk.set_' 2 (.int .i64 (no2+1)) (wkA M (s2+1:Nat) (no2+1:Nat) (fnV f caps)) rfl);have HEl:=hd (Ext.setAt (b:=wb) (i:=2) (u:=.int .i64 (no2+1)) (.inl (by simp)) (Ext.refl [wb] w6));have HR8:=hd (HR7.o.stepd HSV.o HEl.o HBl.o);have HM8:=hd (HM7.o.ext HEl.o (by rw[List.mem_singleton];exact Ne.symm HSV.o.apart));go_wp2_with fail
      go_meet
      exact⟨s2+1,no2+1,_,HR8,HM8,hd (HNX.o _ _ _ (by rw[HSN.o];exact Nat.le_refl _) (.inl ⟨by rw[HRN.o],hst1,by rw[HIN.o],by rw[HSN.o]⟩))⟩
     ·have HRN:=hd (runN_when (env:=env) (b:=b) hk2);have HIN:=hd (instS_when (env:=env) (no:=no2) (b:=b) hk2);have HSN:=hd (show storesS (.mk h b)=storesL b by rw[storesS,if_neg (by omega),Nat.zero_add]);have HCS:=hd (show cntS (.mk h b)=1+cntL b by rw[cntS]);have hsb3:storesL b<=3000:=by have:=HSN.o;omega
      have hnb3:no2+storesL b<=3000:=by have:=HSN.o;omega
      have HBC:=hd (fun W (hCo:∀x∈C,x<W.heap.size) hE hB hM hI=>hIB f caps C wb mb nb M I w0 W h.A h.cap names env (s2+1) no2 d2 HSV.o hCo HXS.o.all.2.2.2.2.2.2.1 HXS.o.all.2.2.2.2.2.2.2 hfb HG.o hE hB hM hI hst1 hMx hnb3 hcb);rw[HBN.o] at HBC;have HHAS:=hd (fun W (hE:Ext [] w0 W) (hM:SMap W mb env) (hv:Blk W s0 85 #[.map (some mb)])=>af_has h.cA h.conds.length h.cc h.conds 88 #[.pointer (some ⟨s0,0,none⟩)] (fun a=>!decide (0<=evA env a)) W (HXS.o.all.1.keep hE) rfl ⟨enters_condR,fun i x hx w' hw'=>condR_any x s0 mb env w' ((HXS.o.all.2.1 x (List.mem_of_getElem? hx)).keep (hE.trans hw')) (AfG.of (hcd x (List.mem_of_getElem? hx)) HG.o.size) (SMap.ext hM hw' List.not_mem_nil) HG.o.bdd (hv.ext hw' (by simp))⟩);have HHO:=hd (show(h.conds.any fun a=>!decide (0<=evA env a)) = !holdsS env h from any_holds env h.conds);rw[HHO.o] at HHAS;clear HSEE HLOOP hcd hfb hIB;rw[hk2] at a0;clear hk2;have qw:=HR5.o.blk.cell;unfold wkA at qw;have qwl:=HR5.o.blk.lt;go_wp2_with fail
      refine(HHAS.o _ (HE0W.o _ HR5.o.ext) HM5.o (HBX.o _ HR5.o.ext)).mono ?_
      rintro e w5 ⟨rfl,hE⟩;have HR6:=hd (HR5.o.grow HSV.o hE);have HM6:=hd (HM5.o.ext hE List.not_mem_nil);have HB6:=hd ((HBX2.o _ HX23.o).ext hE (by simp));clear hE qb qbl qw qwl;have qb:=HB6.o.cell;have qbl:=HB6.o.lt;have qv:=(HBX.o _ HR6.o.ext).cell;have qvl:=(HBX.o _ HR6.o.ext).lt;cases hh:holdsS env h
      ·have HRN2:=hd (show runN env (.mk h b)=1 by rw[HRN.o,hh];rfl);have HIN2:=hd (show instS env no2 (.mk h b)=[] by rw[HIN.o,hh];rfl);clear hh;go_wp2_with fail
       refine(HSL.o h.A bn h.cap _ (HXS.o.all.2.2.2.2.2.2.1.keep (HE0W.o _ HR6.o.ext)) (fun s hs=>(HXS.o.all.2.2.2.2.2.2.2 s hs).keep (HE0W.o _ HR6.o.ext)) HBN.o hsb3).mono ?_
       rintro e w7 ⟨rfl,hE⟩;have HR7:=hd (HR6.o.grow HSV.o hE);have HM7:=hd (HM6.o.ext hE List.not_mem_nil);clear hE qb qbl qv qvl;have hSB:storesL (St.mk h b).body=storesL b:=rfl;rw[hSB];generalize hsl:storesL b=sl at *;have qw:=HR7.o.blk.cell;have qf:=HR7.o.blk.frozen;unfold wkA at qw qf;have qwl:=HR7.o.blk.lt;have HBl:=hd (HR7.o.blk.set_' 2 (.int .i64 (no2+sl)) (wkA M (s2+1:Nat) (no2+sl:Nat) (fnV f caps)) rfl);have HEl:=hd (Ext.setAt (b:=wb) (i:=2) (u:=.int .i64 (no2+sl)) (.inl (by simp)) (Ext.refl [wb] w7));have HR8:=hd (HR7.o.stepd HSV.o HEl.o HBl.o);have HM8:=hd (HM7.o.ext HEl.o (by rw[List.mem_singleton];exact Ne.symm HSV.o.apart));clear hsl;go_wp2_with fail
       go_meet
       exact⟨s2+1,no2+sl,_,HR8,HM8,hd (HNX.o _ _ _ (by rw[HSN.o];exact Nat.le_refl _) (.inl ⟨by rw[HRN2.o],hst1,by rw[HIN2.o,List.append_nil],by rw[HSN.o]⟩))⟩
      ·have HRN2:=hd (show runN env (.mk h b)=1+runNL env b by rw[HRN.o,hh];rfl);have HIN2:=hd (show instS env no2 (.mk h b)=instL env no2 b by rw[HIN.o,hh];rfl);clear hh;go_wp2_with fail
       have hw6:=HR6.o.ext.size;refine(HBC.o _ (fun x hx=>by have:=HCO.o x hx;omega) (HE0W.o _ HR6.o.ext) HR6.o.blk HM6.o HR6.o.inv).mono ?_
       rintro e w7 ⟨rfl,st2,nt2,dt2,env',hE,hBk,hMp,rfl,hIv,hn1,hn2,hR2⟩;have HR7:=hd (show MidR C wb mb M (fnV f caps) I w1 env' ⟨#[]⟩ st2 nt2 dt2 w7 from⟨HR6.o.ext.trans hE,hBk,⟨none,hMp⟩,hIv⟩);have HM7:=hd hMp;have HRR:=hd hR2
       have HB7:=hd (HB6.o.ext hE (fun hm=>by
        rcases List.mem_cons.1 hm with h1|h1
        ·omega
        ·rcases List.mem_cons.1 h1 with h1|h1
         ·omega
         ·have:=HCO.o _ h1;omega))
       clear hE hBk hMp hIv hR2 qb qbl qv qvl hn1 hn2;have qb:=HB7.o.cell;have qbl:=HB7.o.lt;go_wp2_with fail
       refine(HSL.o h.A bn h.cap _ (HXS.o.all.2.2.2.2.2.2.1.keep (HE0W.o _ HR7.o.ext)) (fun s hs=>(HXS.o.all.2.2.2.2.2.2.2 s hs).keep (HE0W.o _ HR7.o.ext)) HBN.o hsb3).mono ?_
       rintro e w8 ⟨rfl,hE⟩;have HR8:=hd (HR7.o.grow HSV.o hE);have HM8:=hd (HM7.o.ext hE List.not_mem_nil);clear hE qb qbl;have hSB:storesL (St.mk h b).body=storesL b:=rfl;rw[hSB];generalize hsl:storesL b=sl at *;have qw:=HR8.o.blk.cell;have qf:=HR8.o.blk.frozen;unfold wkA at qw qf;have qwl:=HR8.o.blk.lt;have HBl:=hd (HR8.o.blk.set_' 2 (.int .i64 (no2+sl)) (wkA M st2 (no2+sl:Nat) (fnV f caps)) rfl);have HEl:=hd (Ext.setAt (b:=wb) (i:=2) (u:=.int .i64 (no2+sl)) (.inl (by simp)) (Ext.refl [wb] w8));have HR9:=hd (HR8.o.stepd HSV.o HEl.o HBl.o);have HM9:=hd (HM8.o.ext HEl.o (by rw[List.mem_singleton];exact Ne.symm HSV.o.apart));clear hsl;go_wp2_with fail
       go_meet
       refine⟨st2,no2+sl,_,HR9,HM9,hd (HNX.o _ _ _ (by rw[HSN.o];exact Nat.le_refl _) ?_)⟩
       rcases HRR.o with⟨b1,b2,b3⟩|⟨b1,b2,b3⟩
       ·exact .inl ⟨by rw[HRN2.o];omega,by omega,by rw[HIN2.o,b3],by rw[HSN.o]⟩
       ·exact .inr ⟨by rw[HRN2.o];omega,b2,by rw[HCS.o];omega⟩
     ·have HSN:=hd (show storesS (.mk h b)=storesL b by rw[storesS,if_neg (by omega),Nat.zero_add]);have HCS:=hd (show cntS (.mk h b)=1+cntL b by rw[cntS]);have hnb3:no2+storesL b<=3000:=by have:=HSN.o;omega
      have hw3:=HR5.o.ext.size;obtain⟨N,hN,hCALL⟩:=HLOOP.o hk1 hnb3 w3 (fun x hx=>by have:=HCO.o x hx;omega) (HE0W.o _ HR5.o.ext) HR5.o.blk HM5.o HR5.o.inv hst1;have HN9:=hd hN;have HCALL:=hd hCALL;clear HSEE HLOOP hN hCALL;rw[hk1] at a0;clear hk1;have qv:=(HBX.o _ HR5.o.ext).cell;have qvl:=(HBX.o _ HR5.o.ext).lt
      go_wp2_with (
       refine wpList_load_wide rfl 43 _ rfl sb 0 rfl arr (HBX2.o _ HX23.o).wide _ Tryz.underlying43 rfl HSZ.o ?_)
      refine HCALL.o.mono ?_
      rintro e w7 ⟨rfl,st2,nt2,dt2,env',hE,hBk,hMp,rfl,hIv,hn1,hn2,hR2⟩;have HR7:=hd (show MidR C wb mb M (fnV f caps) I w1 env' ⟨#[]⟩ st2 nt2 dt2 w7 from⟨HR5.o.ext.trans hE,hBk,⟨none,hMp⟩,hIv⟩);have HM7:=hd hMp;have HRR:=hd (And.intro hn1 (And.intro hn2 hR2));clear hE hBk hMp hIv hR2 qb qbl qv qvl hn1 hn2;go_wp2_with fail
      go_meet
      refine⟨st2,nt2,_,HR7,HM7,hd (HNX.o _ _ _ (by rw[HSN.o];exact HRR.o.1) ?_)⟩
      rcases HRR.o.2.2 with⟨b1,b2,b3⟩|⟨b1,b2,b3⟩
      ·exact .inl ⟨by rw[HN9.o];omega,by omega,b3,by rw[HSN.o];exact HRR.o.2.1 b1 b2⟩
      ·exact .inr ⟨by rw[HN9.o];omega,b2,by rw[HCS.o];omega⟩
    ·have e2:decide (s2+1<=M)=false:=by simpa using hst1
     rw[e2];have HSP:=hd (HSTOP.o hst1);go_wp2_with fail
     exact bodyPost_ret (results_none rfl _ _ _) rfl ⟨rfl,s2+1,no2,d2,env,HEx.o.nil.trans HR5.o.ext,HR5.o.blk,HM5.o,rfl,HR5.o.inv,HSP.o.1,HSP.o.2.1,HSP.o.2.2⟩
   case rest=>
    obtain⟨s3,no3,d3,HR6,HM6,HK6⟩:=hcut;go_wp2_with fail
    go_roundw
    case rel=>exact⟨k+1,s3,no3,d3,by go_num,by omega,HR6,HM6,HK6⟩
    case measure=>simp[intOf];omega
  ·have hkn:k=n:=by omega
   subst hkn;have HT:Hd (l.take k=l):=hd (List.take_of_length_le (by have:=HN.o;omega));rw[HT.o] at HK;have HSP:=hd (midB_end HK.o);go_wp2_with fail
   exact bodyPost_end (results_none rfl _ _ _) rfl ⟨rfl,s2,no2,d2,env,HEx.o.nil.trans HRk.o.ext,HRk.o.blk,HMk.o,rfl,HRk.o.inv,HSP.o.1,HSP.o.2.1,HSP.o.2.2⟩
theorem wbody_any:∀s:St,WkC s.body:=st_ind fun h b ih=>wbody_list b ih
end
end Go.Proofs.YtfppibmloloakaaGreatDoor
