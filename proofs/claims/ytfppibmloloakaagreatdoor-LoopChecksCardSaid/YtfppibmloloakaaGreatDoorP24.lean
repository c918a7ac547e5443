import Derived.Test.YtfppibmloloakaaGreatDoorP23
namespace Go.Proofs.YtfppibmloloakaaGreatDoor
open Go.RowKit Go.Proofs.Tryz
set_option linter.all false
def nmI:ByteArray:=⟨#[105]⟩
def wdK (k:Nat):Array Value:=#[.int .i64 (if 0<k then 4 else 0),.int .i64 (if 1<k then 5 else 0)]
def sbK (k:Nat):Array Value:=#[.bool (decide (0<k)),.bool (decide (1<k))]
theorem wdK_set {k:Nat}(h:k<2):(wdK k).setIfInBounds k (.int .i64 ((k:Int)+4))=wdK (k+1):=by
 have:k=0\/k=1:=by omega
 rcases this with rfl|rfl<;>rfl
theorem sbK_set {k:Nat}(h:k<2):(sbK k).setIfInBounds k (.bool true)=sbK (k+1):=by
 have:k=0\/k=1:=by omega
 rcases this with rfl|rfl<;>rfl
structure CopyS (h:SH):Prop where
 k:h.k=3
 buf:h.buf=1
 at_:∀x:Int,evA [(nmI,x)] h.at_=x
 val:∃e:EH,h.val=.mk e []/\e.k=3/\e.buf=0/\∀x:Int,evA [(nmI,x)] e.at_=x
structure CopyF (h:SH):Prop where
 k:h.k=1
 vec:h.vec=false
 var:h.var=nmI
 lo:h.lo=0
 step:h.step=1
 many:manyS h=2
structure CopyM (w:World)(mb wb sb cw cs b0 c0 b1 c1:Nat)(k:Nat):Prop where
 mem:MemL w mb wb sb cw cs [(b0,c0,2),(b1,c1,2)]
 w0:Blk w b0 3 #[.int .i64 4,.int .i64 5]
 s0:Blk w c0 4 #[.bool true,.bool true]
 w1:Blk w b1 3 (wdK k)
 s1:Blk w c1 4 (sbK k)
 apart:b0≠b1/\c0≠c1/\b0≠c1/\c0≠b1/\mb≠b1/\mb≠c1/\wb≠b1/\wb≠c1/\sb≠b1/\sb≠c1
theorem CopyM.ext {w w':World}{mb wb sb cw cs b0 c0 b1 c1 k:Nat}(h:CopyM w mb wb sb cw cs b0 c0 b1 c1 k){S:List Nat}(hE:Ext S w w')(hS:mb∉S/\wb∉S/\sb∉S/\b0∉S/\c0∉S/\b1∉S/\c1∉S):CopyM w' mb wb sb cw cs b0 c0 b1 c1 k:=
 ⟨h.mem.ext hE ⟨hS.1,hS.2.1,hS.2.2.1⟩,h.w0.ext hE hS.2.2.2.1,h.s0.ext hE hS.2.2.2.2.1,h.w1.ext hE hS.2.2.2.2.2.1,h.s1.ext hE hS.2.2.2.2.2.2,h.apart⟩
theorem CopyM.next {w w':World}{mb wb sb cw cs b0 c0 b1 c1 k k':Nat}(h:CopyM w mb wb sb cw cs b0 c0 b1 c1 k)(hE:Ext [b1,c1] w w')(h1:Blk w' b1 3 (wdK k'))(h2:Blk w' c1 4 (sbK k')):CopyM w' mb wb sb cw cs b0 c0 b1 c1 k':=by
 obtain⟨a1,a2,a3,a4,a5,a6,a7,a8,a9,a10⟩:=h.apart;exact⟨h.mem.ext hE (by simp only[List.mem_cons,List.not_mem_nil,or_false,not_or];exact⟨⟨a5,a6⟩,⟨a7,a8⟩,a9,a10⟩),h.w0.ext hE (by simp only[List.mem_cons,List.not_mem_nil,or_false,not_or];exact⟨a1,a3⟩),h.s0.ext hE (by simp only[List.mem_cons,List.not_mem_nil,or_false,not_or];exact⟨a4,a2⟩),h1,h2,h.apart⟩
attribute [local irreducible] relAt
set_option maxHeartbeats 8000000 in
set_option maxRecDepth 100000 in
theorem crun_store (mb wb sb cw cs b0 c0 b1 c1 eb n nb k:Nat)(h:SH)(A:Option Addr)(cap:Nat)(gs:List Nat)(no:Nat)(xs:List Int)(gl L:List Nat)(AL:List Value)(w:World)
  (hM:CopyM w mb wb sb cw cs b0 c0 b1 c1 k) (hk:k<2) (hS:CopyS h) (hA:LstAt w n nb L AL [nmI] xs gl no A gs [.mk h []]) (hV:EnvR w eb [(k:Int)]) :
  Calls Tryz.prog 96 #[.pointer (some ⟨mb,0,none⟩),.slice A 1 cap,.slice (some ⟨eb,0,none⟩) 1 8] w fun e w'=>e=.returned (.tuple #[])/\Ext [b1,c1] w w'/\Blk w' b1 3 (wdK (k+1))/\Blk w' c1 4 (sbK (k+1)):=by
 obtain⟨bA,g,rfl,hg,hgc⟩:=hA.row.at (i:=0) (by have:=hA.len;simp at this;omega);have hgq:w.cell? ⟨bA,0,none⟩=some (.pointer (some ⟨g,0,none⟩)):=by have:=hgc 0 _ rfl;exact this
 have hgql:=World.block_lt_of_cell? w _ hgq;simp only at hgql;obtain⟨pb,po,CA,cc,BA,bcap,bgs,PA,pc,vv,hC⟩:=(hA.at_ 0 g _ hg rfl).open_;have HST:=hd (StoB.of hC hS.k (hA.fd _ (List.mem_cons_self ..)));obtain⟨e,he,ek,ebf,eat⟩:=hS.val;obtain⟨pb',po',vb,k1,k2,k3,k4,k5⟩:=HST.o.src;rw[he] at k5;have hval:=HST.o.val;rw[he] at hval;have hz:[nmI].zip [(k:Int)]=[(nmI,(k:Int))]:=rfl
 have hv0:w.cell? ⟨b0,k,none⟩=some (.int .i64 ((k:Int)+4)):=by
  rw[hM.w0.cell];have:k=0\/k=1:=by omega
  rcases this with rfl|rfl<;>rfl
 have hs0:w.cell? ⟨c0,k,none⟩=some (.bool true):=by
  rw[hM.s0.cell];have:k=0\/k=1:=by omega
  rcases this with rfl|rfl<;>rfl
 have HVA:=hd (mload_any mb wb sb cw cs _ 0 k b0 c0 2 ((k:Int)+4) e vb n nb eb [nmI] [(k:Int)] w hM.mem rfl hk hs0 hv0 ek ebf k5 hval hV rfl (by rw[hz];exact eat k));have HSA:=hd (fun W (hW:Ext [] w W)=>mstore_any mb wb sb cw cs _ 1 k b1 c1 2 ((k:Int)+4) h g n nb (no+storesL ([St.mk h []].take 0)) eb [nmI] [(k:Int)] (wdK k) (sbK k) W (hM.mem.ext hW (by simp)) rfl hk (hM.w1.ext hW (by simp)) (hM.s1.ext hW (by simp)) (Nat.le_refl 2) (Nat.le_refl 2) hS.buf (HST.o.xb (XB.of0 (D:=[]) (B:=n) hW) (by simp) (Nat.le_refl n)) (hV.keep hW (by simp)) rfl (by rw[hz];exact hS.at_ k));rw[wdK_set hk,sbK_set hk] at HSA;have qg0:w.cell? ⟨g,0,none⟩=some (.pointer (some ⟨pb,po,none⟩)):=hC.blk.cell 0;have qgl:=hC.blk.lt;have qk:w.cell? ⟨pb,po,none⟩=some (.int .i64 h.k):=hC.src 0 _ rfl;rw[hS.k] at qk;have qpl:=World.block_lt_of_cell? w _ qk;simp only at qpl;unfold ptV at k4 HVA HSA;simp only[List.length_cons,List.length_nil,Nat.zero_add] at HVA HSA;clear hM hS hA hV hg hgc hC HST he k2 k3 k5 hval hv0 hs0 hz;go_enter Tryz.func96,Tryz.ntmps96
 go_wp2_with fail
 go_loopw [17] (fun i wr=>(i=.int .i64 0/\wr=w)\/(i=.int .i64 1/\Hd (Ext [b1,c1] w wr/\Blk wr b1 3 (wdK (k+1))/\Blk wr c1 4 (sbK (k+1))))) (fun i _=>(1-intOf i).toNat)
 case atStart=>exact .inl ⟨rfl,rfl⟩
 case round=>
  rcases hrel with⟨rfl,rfl⟩|⟨rfl,HF⟩
  ·go_wp2_with fail
   refine HVA.o.mono ?_
   rintro r w2 ⟨rfl,hE⟩;have HE2:=hd hE;have HSB:=hd (HSA.o w2 hE);clear hE HVA HSA;go_wp2_with fail
   refine HSB.o.mono ?_
   rintro r w3 ⟨rfl,hE,h1,h2⟩;have HFF:=hd (And.intro (HE2.o.nil.trans hE) (And.intro h1 h2));clear hE h1 h2 HSB;go_wp2_with fail
   go_roundw
   case rel=>exact .inr ⟨by go_num,HFF⟩
   case measure=>simp[intOf]
  ·go_wp2_with fail
   exact bodyPost_end (results_none rfl _ _ _) rfl ⟨rfl,HF.o⟩
set_option maxHeartbeats 8000000 in
set_option maxRecDepth 100000 in
theorem crun_for (mb wb sb cw cs b0 c0 b1 c1 eb n nb:Nat)(h hs:SH)(A:Option Addr)(cap:Nat)(gs:List Nat)(no:Nat)(xs:List Int)(gl L:List Nat)(AL:List Value)(w:World)
  (hM:CopyM w mb wb sb cw cs b0 c0 b1 c1 0) (hF:CopyF h) (hS:CopyS hs) (hA:LstAt w n nb L AL [] xs gl no A gs [.mk h [.mk hs []]]) (hV:EnvR w eb []) (hne:n<=eb) (hlow:n<=b1/\n<=c1) (hEB:eb≠mb/\eb≠wb/\eb≠sb/\eb≠b0/\eb≠c0/\eb≠b1/\eb≠c1) :
  Calls Tryz.prog 96 #[.pointer (some ⟨mb,0,none⟩),.slice A 1 cap,.slice (some ⟨eb,0,none⟩) (0:Nat) 8] w fun e w'=>e=.returned (.tuple #[])/\Ext [eb,b1,c1] w w'/\CopyM w' mb wb sb cw cs b0 c0 b1 c1 2:=by
 obtain⟨bA,g,rfl,hg,hgc⟩:=hA.row.at (i:=0) (by have:=hA.len;simp at this;omega);have hgq:w.cell? ⟨bA,0,none⟩=some (.pointer (some ⟨g,0,none⟩)):=by have:=hgc 0 _ rfl;exact this
 have hgql:=World.block_lt_of_cell? w _ hgq;simp only at hgql;obtain⟨pb,po,CA,cc,BA,bcap,bgs,PA,pc,vv,hC⟩:=(hA.at_ 0 g _ hg rfl).open_;have HC:=hd hC;have HFD:=hd (hA.fd _ (List.mem_cons_self ..));have HMM:=hd hM;have HSS:=hd hS;have HEB:=hd hEB;have HV:=hd hV;have HVK:=hd (show h.var=nmI from hF.var);have HMN:=hd hF.many;have HIV:Hd (innerV [] h=[nmI]):=hd (by rw[show innerV [] h=[] ++ [h.var] from if_pos hF.k,hF.var];rfl);have HFK:=hd hF;have qg0:w.cell? ⟨g,0,none⟩=some (.pointer (some ⟨pb,po,none⟩)):=hC.blk.cell 0;have qgl:=hC.blk.lt;have qk:w.cell? ⟨pb,po,none⟩=some (.int .i64 h.k):=hC.src 0 _ rfl;have ql0:w.cell? ⟨pb,po+2,none⟩=some (.int .i64 h.lo):=hC.src 2 _ rfl;have qs0:w.cell? ⟨pb,po+4,none⟩=some (.int .i64 h.step):=hC.src 4 _ rfl;have qv:w.cell? ⟨pb,po+5,none⟩=some (.bool h.vec):=hC.src 5 _ rfl;have qg2:w.cell? ⟨g,2,none⟩=some (.int .i64 (if h.k=1 then(manyS h:Int) else 0)):=hC.blk.cell 2;have qg4:w.cell? ⟨g,4,none⟩=some (.slice BA 1 bcap):=hC.blk.cell 4;rw[if_pos hF.k,hF.many] at qg2;rw[hF.k] at qk;rw[hF.vec] at qv;rw[hF.lo] at ql0;rw[hF.step] at qs0;have qpl:=World.block_lt_of_cell? w _ qk;simp only at qpl;have hgn:=hC.gn;have hpn:=hC.pn
 have HNS:Hd (∀b,b<n->b∉[eb,b1,c1]):=hd fun b hb hm=>by
  simp only[List.mem_cons,List.not_mem_nil,or_false] at hm;omega
 have HHS:Hd (∀x∈[eb,b1,c1],n<=x):=hd fun x hx=>by
  simp only[List.mem_cons,List.not_mem_nil,or_false] at hx;omega
 have HL0:=hd ql0;have HS0:=hd qs0;clear hM hF hS hA hV hg hgc hC ql0 qs0 hEB;go_enter Tryz.func96,Tryz.ntmps96
 go_wp2_with fail
 go_loopw [17] (fun i wr=>(i=.int .i64 0/\wr=w)\/(i=.int .i64 1/\Hd (Ext [eb,b1,c1] w wr/\CopyM wr mb wb sb cw cs b0 c0 b1 c1 2))) (fun i _=>(1-intOf i).toNat)
 case atStart=>exact .inl ⟨rfl,rfl⟩
 case round=>
  rcases hrel with⟨rfl,hw⟩|⟨rfl,HF⟩
  ·have hw':=hw.symm;subst hw';have qpp:=hd qpl;have HG0:=hd qg0;have HG4:=hd qg4;go_wp2_with fail
   clear qg2;go_loopw [25] (fun i wx=>∃j:Nat,i=.int .i64 j/\j<=2/\Hd (Ext [eb,b1,c1] w wx)/\Hd (CopyM wx mb wb sb cw cs b0 c0 b1 c1 j)/\Hd (EnvR wx eb [])) (fun i _=>(2-intOf i).toNat)
   case atStart=>exact⟨0,rfl,by omega,hd (Ext.refl _ _),HMM,HV⟩
   case round=>
    obtain⟨j,rfl,hj,HEJ,HMJ,HVJ⟩:=hrel;rename World=>wj
    by_cases hjl:j<2
    ·have hjm:(j:Int)<2:=by omega
     have q0:wj.cell? ⟨g,0,none⟩=some (.pointer (some ⟨pb,po,none⟩)):=HEJ.o.held HG0.o (HNS.o g hgn);have q4:wj.cell? ⟨g,4,none⟩=some (.slice BA 1 bcap):=HEJ.o.held HG4.o (HNS.o g hgn);have ql:wj.cell? ⟨pb,po+2,none⟩=some (.int .i64 0):=HEJ.o.held HL0.o (HNS.o pb hpn);have qs:wj.cell? ⟨pb,po+4,none⟩=some (.int .i64 1):=HEJ.o.held HS0.o (HNS.o pb hpn)
     have HQJ:Hd (∀W,Ext [eb] wj W->W.cell? ⟨g,0,none⟩=some (.pointer (some ⟨pb,po,none⟩))/\W.cell? ⟨g,4,none⟩=some (.slice BA 1 bcap)/\g<W.heap.size/\W.cell? ⟨pb,po+2,none⟩=some (.int .i64 0)/\W.cell? ⟨pb,po+4,none⟩=some (.int .i64 1)/\pb<W.heap.size):=hd fun W hW=>by
      have hnot1:∀b,b<n->b∉[eb]:=fun b hb hm=>by rw[List.mem_singleton] at hm;omega
      have h1:=hW.size;have h2:=HEJ.o.size;have h3:=qpp.o;exact⟨hW.held q0 (hnot1 g hgn),hW.held q4 (hnot1 g hgn),by omega,hW.held ql (hnot1 pb hpn),hW.held qs (hnot1 pb hpn),by omega⟩
     clear q0 q4 ql qs;have HXV:Hd (Bdd (j:Int)):=hd ⟨by omega,by omega⟩;go_upto_region 6 with fail
     refine rgW 25 [eb] (fEnv eb 0 (j:Int)) [(23,sCells wj.heap.size [.int .i64 (j:Int)]),(24,sEnv eb (0+1) [(j:Int)])] ?_ ?_
     ·refine Stays.cons (sCells.stays fun b j u y hb hu hf=>?_) (Stays.cons (sEnv.stays fun y hy=>?_) Stays.nil)
      ·have h9:b=eb:=hf.1;have:=HVJ.o.lt;omega
      ·cases hy
       rfl
     simp only[List.take_succ_cons,List.take_zero,List.drop_succ_cons,List.drop_zero]
     repeat
      refine relAt_det rfl rfl ?_
      apply Exists.intro
      refine⟨fun wr nr hJ=>?_,?_⟩
      ·obtain⟨q0,q4,qgl,ql,qs,qpl⟩:=HQJ.o wr hJ.1;clear hJ;(go_simp;try go_bits)
       first|rfl|exact⟨rfl,rfl⟩
      simp only[Act.put,List.setIfInBounds_toArray,List.set_cons_succ,List.set_cons_zero]
     refine rel_newL (sCells wj.heap.size [.int .i64 (j:Int)]) rfl rfl (fun wr nr hJ hf=>?_) ?_
     ·refine⟨wr.heap.size,.cells #[.int .i64 (j:Int)] 3,?_,Ext.size hJ.1,cells_one _ _ _ ((Blk.new wr 3 #[.int .i64 (j:Int)]).cell 0)⟩
      (go_simp;try go_bits)
      first|rfl|exact⟨rfl,rfl⟩
     intro (b23:Nat);simp only[Act.put,List.setIfInBounds_toArray,List.set_cons_succ,List.set_cons_zero];refine rel_push eb b23 1 0 [] (j:Int) _ _ rfl rfl rfl rfl rfl rfl (by omega) HXV.o (fun wr nr hJ hf=>?_) ?_
     ·have h23:(sCells wj.heap.size [.int .i64 (j:Int)]).V b23 wr:=get_after hf 23 (by kernel_rfl);exact⟨HVJ.o.rw hJ.2 fun y hy=>by simp at hy,h23.2 0 _ rfl⟩
     simp only[Act.put,List.setIfInBounds_toArray,List.set_cons_succ,List.set_cons_zero]
     repeat
      refine relAt_det rfl rfl ?_
      apply Exists.intro
      refine⟨fun wr nr hJ=>?_,?_⟩
      ·skip
       clear hJ;(go_simp;try go_bits)
       first|rfl|exact⟨rfl,rfl⟩
      simp only[Act.put,List.setIfInBounds_toArray,List.set_cons_succ,List.set_cons_zero]
     refine relAt_nil (fun w5 hJ hF=>?_)
     have HV5:Hd (EnvR w5 eb [(j:Int)]):=hd (hF 24);have HE5:=hd hJ.1;clear hF hJ;have HXQ:Hd (Ext [eb,b1,c1] w w5):=hd (HEJ.o.trans (HE5.o.mono fun x hx=>.inl (by rw[List.mem_singleton.1 hx];simp)));have HLA:=hd ((LstAt.body HC.o HFD.o).step HXQ.o HHS.o);rw[HIV.o] at HLA;obtain⟨e1,e2,e3,e4,e5,e6,e7⟩:=HEB.o;have HM5:=hd (HMJ.o.ext HE5.o (by simp only[List.mem_singleton];exact⟨Ne.symm e1,Ne.symm e2,Ne.symm e3,Ne.symm e4,Ne.symm e5,Ne.symm e6,Ne.symm e7⟩));have HQ:=hd (crun_store mb wb sb cw cs b0 c0 b1 c1 eb n nb j hs BA bcap bgs no _ _ L AL w5 HM5.o hjl HSS.o HLA.o HV5.o);clear HLA e1 e2 e3 e4 e5 e6 e7;go_wp2_with fail
     refine HQ.o.mono ?_
     rintro e w7 ⟨rfl,hE7,h1,h2⟩;have HX7:Hd (Ext [eb,b1,c1] w w7):=hd (HXQ.o.trans (hE7.mono fun x hx=>.inl (List.mem_cons_of_mem _ hx)));have HM7:=hd (HM5.o.next hE7 h1 h2);have HV7:Hd (EnvR w7 eb []):=hd (HV5.o.keep hE7 (by simp only[List.mem_cons,List.not_mem_nil,or_false,not_or];exact⟨HEB.o.2.2.2.2.2.1,HEB.o.2.2.2.2.2.2⟩)).pop;clear hE7 h1 h2 HQ HV5;go_wp2_with fail
     go_roundw
     case rel=>exact⟨j+1,by go_num,by omega,HX7,HM7,HV7⟩
     case measure=>simp[intOf];omega
    ·have hjm:j=2:=by omega
     subst hjm;go_wp2_with fail
     go_roundw
     case rel=>exact .inr ⟨by go_num,hd ⟨HEJ.o,HMJ.o⟩⟩
     case measure=>simp[intOf]
  ·go_wp2_with fail
   exact bodyPost_end (results_none rfl _ _ _) rfl ⟨rfl,HF.o⟩
end Go.Proofs.YtfppibmloloakaaGreatDoor
