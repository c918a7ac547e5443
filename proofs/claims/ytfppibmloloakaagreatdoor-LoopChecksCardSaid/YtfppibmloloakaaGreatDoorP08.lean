import Derived.Test.YtfppibmloloakaaGreatDoorP07
namespace Go.Proofs.YtfppibmloloakaaGreatDoor
open Go.RowKit Go.Proofs.Tryz
set_option linter.all false
set_option maxHeartbeats 16000000 in
set_option maxRecDepth 100000 in
theorem call_list (l:List St)(ih:∀s∈l,CAllC s.body):CAllC l:=by
 intro pb cap lA LA ln lc gl PA pn pc xs names nb no cb B b0 b1 b2 sv av L AL X w0 w hR hS hF hE0 hB0 hBc hL hM hl hz h8 hP hxl hpz hp9 hC hLn hAn hno hX hLT hgT hPT;have hn9:l.length<=1000000:=hR.1;have HI:=hd ih;have HR:=hd hR;have HS:=hd hS;have HF:=hd hF;have HE0:=hd hE0;have HL:=hd hL;have HM:=hd hM;have HLN:=hd hl;have HZ:=hd hz;have H8:=hd h8;have HP:=hd hP;have HXL:=hd hxl;have HPZ:=hd hpz;have HC:=hd hC;have HLL:=hd hLn;have HAL:=hd hAn;have HX:=hd hX;have HLT:=hd hLT;have HGT:=hd hgT;have HPT:=hd hPT;have HTS:=hd (hC.ts hBc);clear ih hR hS hF hE0 hL hM hl hz h8 hP hxl hpz hC hLn hAn hX hLT hgT hPT;generalize hn:l.length=n at *;have HN:=hd hn;clear hn;go_enter Tryz.func147,Tryz.ntmps147
 go_wp2_with fail
 go_loopw [9,17] (fun ov i wr=>∃(k:Nat) (v sv1 av1:Value) (L1:List Nat) (AL1:List Value) (gs:List Nat),i=.int .i64 k/\v=ov/\k<=n/\gs.length=k/\Hd (Ext (TS cb sv av) w wr)/\Hd (CdIn wr cb B b0 b1 b2 sv1 av1 L1 AL1)/\Hd (L1.length=no+storesL (l.take k)/\AL1.length=no+storesL (l.take k))/\Hd (∀(i g:Nat),L[i]? = some g->L1[i]? = some g)/\Hd (∀(i:Nat) (g:Value),AL[i]? = some g->AL1[i]? = some g)/\
  Hd (∀x∈TS cb sv1 av1,x∈TS cb sv av\/w.heap.size<=x)/\Hd (Own1 wr w.heap.size 117 v (gs.map ptV))/\Hd (∀b,v.ownBlock=some b->b∉TS cb sv1 av1)/\
  Hd (∀(i g:Nat) (s:St),gs[i]? = some g->l[i]? = some s->CSt wr wr.heap.size (v.ownBlock.toList ++ (X ++ TS cb sv1 av1)) L1 AL1 names (xs ++ [(i:Int)]) gl (no+storesL (l.take i)) g s)) (fun _ i _=>(n-intOf i).toNat)
 case atStart=>exact⟨0,_,sv,av,L,AL,[],rfl,rfl,Nat.zero_le _,rfl,hd (Ext.refl _ _),HC,hd ⟨by simpa[storesL] using HLL.o,by simpa[storesL] using HAL.o⟩,hd fun i g h=>h,hd fun i g h=>h,hd fun x hx=>.inl hx,hd (own1_nil _ _ _),hd (fun b hb=>by cases hb),hd fun i g s hg=>by simp at hg⟩
 case round=>
  obtain⟨k,v,sv1,av1,L1,AL1,gs,rfl,rfl,hk,hgl,HE,HC1,HL1,HLP,HAP,HT1,HO,HOT,HG⟩:=hrel;rename World=>wq
  by_cases hlt:k<n
  ·have HE2:Hd (Ext [] w0 wq):=hd (keep0 HE0.o HE.o fun x hx=>by have:=(HTS.o x hx).1;omega);obtain⟨b,x,rfl,hx,hcc⟩:=(HR.o.keep HE2.o).at (i:=k) (by have:=HN.o;omega);obtain⟨h,bs⟩:=x;have hmem:=List.mem_of_getElem? hx;have HXK:=hd hx;have HXS:=hd (HS.o _ hmem);have HXF:=hd (HF.o _ hmem);have HXI:=hd (HI.o _ hmem);have HCC:=hd (fun j v hv=>hcc j v hv:∀(j:Nat) (v:Value),(stH h bs.length)[j]? = some v->wq.cell? ⟨b,k*21+j,none⟩=some v);have hTq:∀x∈TS cb sv av,w0.heap.size<=x:=fun x hx=>by have:=(HTS.o x hx).1;omega
   have HLq:=hd (HL.o.ext HE.o fun x hx b o hA hxb=>(HLT.o b o hA).2 (hxb ▸ hx));have HMq:=hd (HM.o.ext HE.o hTq HGT.o);have HPq:=hd (HP.o.ext HE.o fun x hx b o hA hxb=>HPT.o b o hA (hxb ▸ hx));have hsl:storesL (l.take k)+storesS (.mk h bs)<=storesL l:=storesL_le hx;obtain⟨sA,sc,rfl,hsq,hsb⟩:=own_pt HC1.o.st (by have:=HL1.o.1;omega);have HSQ:=hd hsq;have HSB:=hd hsb;clear hsq hsb;have hL1b:L1.length<=100000:=by have:=HL1.o.1;omega
   have qc:=HC1.o.blk.cell;have qcl:=HC1.o.blk.lt;have hkn:(k:Int)<(n:Int):=by omega
   have HCL:=hd (fun p hp=>Nat.lt_of_lt_of_le (World.block_lt_of_cell? wq _ (HCC.o 0 _ rfl)) hp:∀p,wq.heap.size<=p->b<p);clear hx hcc hmem hTq
   have HT0:Hd (∀x∈v.ownBlock.toList ++ X,x<wq.heap.size):=hd fun x hx=>by
    have h1:=HE.o.size;rcases List.mem_append.1 hx with hx|hx
    ·exact(own1_blk HO.o (Option.mem_toList.1 hx)).2
    ·have:=(HX.o x hx).2;omega
   have HTQ:=hd (HC1.o.ts hBc);go_upto_region 5 with fail
   go_cut [11] (fun s wx=>∃(sb g9 c9:Nat),s=.pointer (some ⟨sb,0,none⟩)/\Hd (RndC wq wx cb B b0 b1 b2 (.slice sA L1.length sc) av1 (v.ownBlock.toList ++ X) sb (.slice sA L1.length sc) av1 L1 AL1 (csArr b (k*21) ln 0 (.slice none 0 0) (.slice none 0 0) 0 (.slice (some ⟨g9,0,none⟩) (xs ++ [(k:Int)]).length c9) 0 zeroC (.pointer none) L1.length (0:Nat)) (some ⟨g9,0,none⟩) (xs ++ [(k:Int)]))/\Hd (Ext [] wq wx))
   case first=>
    obtain⟨i0,hi0,hz0,hz1,hz2⟩:=intInfo;go_wp2_with fail
    clear qc qcl;refine rgW 15 [] (fun p y=>wq.heap.size<=p.block/\p.off=pn/\y=.int .i64 k) [(6,sRow wq.heap.size 3 (xs.map (Value.int .i64))),(8,sCells wq.heap.size [.int .i64 k]),(9,sRowA wq.heap.size 3 1 pn (xs.map (Value.int .i64) ++ [.int .i64 k]) (wq.heap.size<=·))] ?_ ?_
    ·refine Stays.cons (sRow.stays fun g i x y hx hf=>?_) (Stays.cons (sCells.stays fun b j u y hb hu hf=>?_) (Stays.cons (sRowA.stays fun g i x y _ hx hf=>?_) Stays.nil))
     ·have h1:=(List.getElem?_eq_some_iff.1 hx).1;rw[List.length_map,HXL.o] at h1;have h2:i=pn:=hf.2.1;omega
     ·have h1:j=0:=by have:=(List.getElem?_eq_some_iff.1 hu).1;simp at this;exact this
      subst h1;cases hu
      exact hf.2.2
     ·have h2:i=pn:=hf.2.1;subst h2;rw[List.getElem?_append_right (by rw[List.length_map,HXL.o];exact Nat.le_refl _),List.length_map,HXL.o,Nat.sub_self] at hx;cases hx
      exact hf.2.2
    simp only[List.take_succ_cons,List.take_zero,List.drop_succ_cons,List.drop_zero]
    repeat
     refine relAt_det rfl rfl ?_
     apply Exists.intro
     refine⟨fun wr nr hJ=>?_,?_⟩
     ·have qc:=(HC1.o.blk.ext hJ.1 (List.not_mem_nil)).cell;have qcl:=(HC1.o.blk.ext hJ.1 (List.not_mem_nil)).lt;clear hJ;(go_simp;try go_bits)
      first|rfl|exact⟨rfl,rfl⟩
     simp only[Act.put,List.setIfInBounds_toArray,List.set_cons_succ,List.set_cons_zero]
    refine rel_extL (sRow wq.heap.size 3 (xs.map (Value.int .i64))) rfl rfl ?_ ?_
    ·apply Exists.intro
     apply Exists.intro
     refine⟨fun wr=>?_,fun wr nr hJ hf=>?_⟩
     ·go_simp
      first|exact⟨rfl,rfl⟩|rfl
     ·refine(iClone_any PA pn pc xs wr (HPq.o.keep hJ.1) HXL.o HPZ.o).mono ?_
      rintro e w' ⟨v',rfl,hE,hO⟩;exact⟨v',rfl,own1_base hO (Ext.size hJ.1),hE⟩
    intro (v6:Value);simp only[Act.put,List.setIfInBounds_toArray,List.set_cons_succ,List.set_cons_zero]
    repeat
     refine relAt_det rfl rfl ?_
     apply Exists.intro
     refine⟨fun wr nr hJ=>?_,?_⟩
     ·have qc:=(HC1.o.blk.ext hJ.1 (List.not_mem_nil)).cell;have qcl:=(HC1.o.blk.ext hJ.1 (List.not_mem_nil)).lt;clear hJ;(go_simp;try go_bits)
      first|rfl|exact⟨rfl,rfl⟩
     simp only[Act.put,List.setIfInBounds_toArray,List.set_cons_succ,List.set_cons_zero]
    refine rel_newL (sCells wq.heap.size [.int .i64 k]) rfl rfl (fun wr nr hJ hf=>?_) ?_
    ·refine⟨wr.heap.size,.cells #[.int .i64 k] 3,?_,Ext.size hJ.1,cells_one _ _ _ ((Blk.new wr 3 #[.int .i64 k]).cell 0)⟩
     (go_simp;try go_bits)
     first|rfl|exact⟨rfl,rfl⟩
    intro (b8:Nat);simp only[Act.put,List.setIfInBounds_toArray,List.set_cons_succ,List.set_cons_zero];refine rel_appL wq.heap.size b8 22 3 i0 _ 1 8 v6 pn 1 (xs.map (Value.int .i64)) [.int .i64 k] (wq.heap.size<=·) _ _ rfl rfl rfl (by kernel_rfl) hi0 hz0 hz1 hz2 rfl (by decide) rfl rfl rfl (fun u hu=>by rw[List.mem_singleton.1 hu];rfl) (fun w' n' hJ hf=>?_) (Nat.le_refl _) (fun g hg hb=>.inr hb) (fun g hg=>hg.elim And.right id) (fun g j u hg hb hu=>?_) ?_ ?_ ?_
    ·have h6:(sRow wq.heap.size 3 (xs.map (Value.int .i64))).V v6 w':=get_after hf 6 (by kernel_rfl);have h8:(sCells wq.heap.size [.int .i64 k]).V b8 w':=get_after hf 8 (by kernel_rfl);refine⟨?_,h8.2⟩
     have h7:w'.ownsRow wq.heap.size 3 1 v6 (xs.map (Value.int .i64)).length (xs.map (Value.int .i64)):=h6;rw[List.length_map,HXL.o] at h7;exact h7
    ·have h1:j=0:=by have:=(List.getElem?_eq_some_iff.1 hu).1;simp at this;exact this
     subst h1;cases hu
     exact⟨hb,by simp,rfl⟩
    ·unfold maxLen;omega
    ·omega
    intro u9;simp only[Act.put,List.setIfInBounds_toArray,List.set_cons_succ,List.set_cons_zero]
    repeat
     refine relAt_det rfl rfl ?_
     apply Exists.intro
     refine⟨fun wr nr hJ=>?_,?_⟩
     ·have qc:=(HC1.o.blk.ext hJ.1 (List.not_mem_nil)).cell;have qcl:=(HC1.o.blk.ext hJ.1 (List.not_mem_nil)).lt;clear hJ;(go_simp;try go_bits)
      first|rfl|exact⟨rfl,rfl⟩
     simp only[Act.put,List.setIfInBounds_toArray,List.set_cons_succ,List.set_cons_zero]
    refine relAt_nil (fun w9 hJ hF=>?_)
    obtain⟨g9,c9⟩:=u9;have h9:(sRowA wq.heap.size 3 1 pn (xs.map (Value.int .i64) ++ [.int .i64 k]) (wq.heap.size<=·)).V (g9,c9) w9:=hF 9;obtain⟨h9,h9b⟩:=h9;have HE9:=hd hJ.1
    have HPS:Hd (SeqIn w9 (some ⟨g9,0,none⟩) 1 inC (xs ++ [(k:Int)])):=hd (by
     have hx:(xs ++ [(k:Int)]).length<=1000000:=by rw[List.length_append,HXL.o];simp;omega
     have h1:=h9;rw[show xs.map (Value.int .i64) ++ [.int .i64 k]=(xs ++ [(k:Int)]).map (Value.int .i64) by simp] at h1;exact row_seq h1 hx inC fun x=>rfl)
    have HPO:Hd (wq.heap.size<=g9/\g9<w9.heap.size):=hd ⟨h9b,by
     obtain⟨C,hC⟩:=own_blk h9 rfl;exact hC.lt⟩
    clear hF hJ h9 h9b;dsimp only[sRowA];have HBN:=hd (Blk.new w9 129 (csArr b (k*21) ln 0 (.slice none 0 0) (.slice none 0 0) 0 (.slice (some ⟨g9,0,none⟩) (pn+1) c9) 0 zeroC (.pointer none) L1.length 0));have HEN2:=hd ((Ext.refl [] w9).alloc (.cells (csArr b (k*21) ln 0 (.slice none 0 0) (.slice none 0 0) 0 (.slice (some ⟨g9,0,none⟩) (pn+1) c9) 0 zeroC (.pointer none) L1.length 0) 129));have HEN:=hd ((HE9.o).alloc (.cells (csArr b (k*21) ln 0 (.slice none 0 0) (.slice none 0 0) 0 (.slice (some ⟨g9,0,none⟩) (pn+1) c9) 0 zeroC (.pointer none) L1.length 0) 129));unfold csArr at HBN HEN HEN2;simp only[zeroC] at HBN HEN HEN2;go_wp2_with fail
    generalize World.alloc w9 _=w10 at *;go_meet
    have hps:(xs ++ [(k:Int)]).length=pn+1:=by rw[List.length_append,HXL.o];rfl
    refine⟨w9.heap.size,g9,c9,rfl,hd ⟨HEN.o.nil,HC1.o.keep HEN.o (by simp),fun x hx=>.inl hx,?_,HE9.o.size,fun hm=>?_,HPS.o.keep HEN2.o,fun b o hb=>?_⟩,HEN⟩
    ·rw[hps];exact HBN.o
    ·have h1:=(HTQ.o _ hm).2;have h2:=HE9.o.size;omega
    ·cases hb
     refine⟨by have:=HBN.o.lt;have:=HPO.o;omega,fun hm=>?_⟩
     have h3:=HPO.o;rcases List.mem_cons.1 hm with h1|hm
     ·omega
     ·rcases List.mem_append.1 hm with hm|hm
      ·have:=HT0.o _ hm;omega
      ·have:=(HTQ.o _ hm).2;omega
   case rest=>
    obtain⟨sb,g9,c9,rfl,HRC,HEN⟩:=hcut;rename World=>w10
    have qb:=HRC.o.blk.cell;have qbl:=HRC.o.blk.lt;have gk:w10.cell? ⟨b,k*21,none⟩=some (.int .i64 h.k):=HEN.o.held (HCC.o 0 _ rfl) (List.not_mem_nil);have gkl:=World.block_lt_of_cell? w10 _ gk;unfold csArr at qb;simp only at gkl;go_upto_block 2 with fail
    clear qb gk;have HM10:Hd (LoopM w0.heap.size w10 gl names):=hd (HMq.o.ext HEN.o (by simp) (by simp));have HL10:=hd (HLq.o.keep HEN.o);have hnl:names.length=ln:=HM.o.1.symm.trans HLN.o
    have HLB:Hd (∀b o,LA=some ⟨b,o,none⟩->b<w.heap.size):=hd fun b o hA=>by
     rcases Nat.eq_zero_or_pos ln with h0|h0
     ·rw[(HZ.o h0).1] at hA;cases hA
     ·exact seq_lt HL.o (by rw[HLN.o];exact h0) (fun x=>⟨_,rfl⟩) b o hA
    have HGL:=hd HMq.o.lt;have hwz:=HE.o.size;have hw0:=HE2.o.size
    have HC0:Hd (∀(j:Nat) (v:Value),(stH h bs.length)[j]? = some v->w0.cell? ⟨b,k*21+j,none⟩=some v):=hd (by
     obtain⟨b',x',e1,e2,e3⟩:=HR.o.at (i:=k) (by have:=HN.o;omega);cases e1
     rw[HXK.o] at e2;cases e2
     exact e3)
    have hb0:b<w0.heap.size:=World.block_lt_of_cell? w0 _ (HC0.o 0 _ rfl);have hsbq:=HRC.o.sb1
    have HLW:Hd (∀W,Ext [sb] w10 W->SeqIn W LA 1 ptC gl/\LoopM w0.heap.size W gl names/\Ext [] w0 W):=hd fun W hW=>⟨HL10.o.ext hW fun x hx bb o hA hxb=>by
      have h1:=HLB.o bb o hA;rw[List.mem_singleton.1 hx] at hxb;omega,HM10.o.ext hW (fun x hx=>by rw[List.mem_singleton.1 hx];omega) (fun g hg hm=>by have:=HGL.o g hg;rw[List.mem_singleton.1 hm] at this;omega),
     keep0 (HE2.o.trans HEN.o) hW fun x hx=>by rw[List.mem_singleton.1 hx];omega⟩
    have HLAT:Hd (∀bb o,LA=some ⟨bb,o,none⟩->bb∉sb :: (v.ownBlock.toList ++ X ++ TS cb (.slice sA L1.length sc) av1)):=hd fun bb o hA hm=>by
     have h1:=HLB.o bb o hA;have h2:=HLT.o bb o hA;rcases List.mem_cons.1 hm with h3|hm
     ·omega
     ·rcases List.mem_append.1 hm with hm|hm
      ·rcases List.mem_append.1 hm with hm|hm
       ·have:=(own1_blk HO.o (Option.mem_toList.1 hm)).1;omega
       ·exact h2.1 hm
      ·rcases HT1.o bb hm with h3|h3
       ·exact h2.2 h3
       ·omega
    go_cut [12] (fun s wx=>MidC wq cb B b0 b1 b2 (.slice sA L1.length sc) av1 L1 AL1 (v.ownBlock.toList ++ X) sb w0.heap.size h names (xs ++ [(k:Int)]) gl L1.length b (k*21) s wx)
    case first=>
     by_cases hk1:h.k=1
     ·
      have HKK:=hd hk1
      have HBD:Hd ((-100000<=h.lo/\h.lo<=100000)/\(-100000<=h.hi/\h.hi<=100000)/\(1<=h.step/\h.step<=100000)):=hd (by
       have:=HXF.o;cases this with
       | loop _ _ _ _ _ _ _ h1 h2 h3=>exact⟨h1,h2,h3⟩
       | when _ _ _ h1=>omega
       | store _ _ h1=>omega)
      have HV:=hd (values_any b (k*21) h w10 (HEN.o.held (HCC.o 2 _ rfl) (List.not_mem_nil)) (HEN.o.held (HCC.o 3 _ rfl) (List.not_mem_nil)) (HEN.o.held (HCC.o 4 _ rfl) (List.not_mem_nil)) HBD.o.1 HBD.o.2.1 HBD.o.2.2);have qb:=HRC.o.blk.cell;unfold csArr at qb;go_wp2_with fail
      clear qb qbl;refine HV.o.mono ?_
      rintro r w2 ⟨rfl,hE⟩;have HX2:=hd hE;have HR2:=hd (HRC.o.keep hE);clear hE;generalize hm:manyS h=m at *;have HMM:=hd hm;clear hm hk1;have qb:=HR2.o.blk.cell;have qf:=HR2.o.blk.frozen;have qbl:=HR2.o.blk.lt;unfold csArr at qb;go_upto_region 13 with fail
      have HR3:=hd (HR2.o.set 2 (.int .i64 m) (csArr b (k*21) ln m (.slice none 0 0) (.slice none 0 0) 0 (.slice (some ⟨g9,0,none⟩) (xs ++ [(k:Int)]).length c9) 0 zeroC (.pointer none) L1.length (0:Nat)) rfl);have HX3:Hd (Ext [sb] w10 (w2.setCell ⟨sb,2,none⟩ (.int .i64 m))):=hd (HX2.o.nil.trans (Ext.setAt (.inl (by simp)) (Ext.refl [sb] w2)));generalize World.setCell _ _ _=w3 at *;clear qb qf qbl HR2 HX2;have hsb1:=HR3.o.sb1
      have HL3:Hd (SeqIn w3 LA 1 ptC gl):=hd (HL10.o.ext HX3.o fun x hx bb o hA hxb=>by
       have h1:=HLB.o bb o hA;rw[List.mem_singleton.1 hx] at hxb;omega)
      have HCV:=hd (pClone_any LA ln lc gl w3 HL3.o HLN.o HZ.o);obtain⟨i0,hi0,hz0,hz1,hz2⟩:=stmInfo;have hl9:ln<=8:=by have:=H8.o;omega
      go_wp2_with fail
      refine HCV.o.mono ?_
      rintro r w4 ⟨v',rfl,hE,hO⟩;have HX4:=hd hE;have HO4:=hd hO;have HB4:=hd (Blk.new w4 117 #[ptV sb]);have hz4:=hE.size;clear hE hO HCV
      go_wp2_with (
       refine wpList_append_lies _ rfl _ _ 124 rfl w3.heap.size 117 i0 _ 1 8 Tryz.underlying124 hi0 hz0 hz1 hz2 rfl (by decide) _ ln (gl.map ptV) rfl ?c0 ⟨w4.heap.size,0,none⟩ 1 1 [ptV sb] rfl rfl ?c1 ?c2 (by omega) ?c3 ?c4 ?c5 _ rfl ?_
       case c0=>
        have:=own1_ext HO4.o ((Ext.refl [] w4).alloc (.cells #[ptV sb] 117)) (by simp);unfold Own1 at this;rw[List.length_map,HLN.o] at this;exact this
       case c1=>exact new_one _ _ _ (HB4.o.cell 0)
       case c2=>intro u hu;rw[List.mem_singleton.1 hu];rfl
       case c3=>unfold maxLen;omega
       case c4=>omega
       case c5=>exact Nat.le_trans hz4 (Ext.refl [] w4 |>.alloc _).size
       intro g8 c8 w8 ho8 hg8 hi8 ha8;have HX8:=hd (And.intro ho8 hg8);have HI8:=hd hi8;clear ho8 hg8 hi8 ha8)
      go_meet
      have HE8:=hd ((HX4.o.alloc (.cells #[ptV sb] 117)).grown HX8.o.2 fun q hq=>.inr (own1_blk HO4.o hq).1);have HR8:=HR3.o.keep HE8.o;have hg8:=own_base HX8.o.1 g8 rfl;have hsl3:=HR3.o.blk.lt;have hsq:SeqIn w8 (some ⟨g8,0,none⟩) 1 ptC (gl ++ [sb]):=row_seq (f:=ptV) (by rw[List.map_append];exact HX8.o.1) (by rw[List.length_append,HLN.o];simp;omega) ptC fun x=>rfl
      have hM8:LoopM w0.heap.size w8 (gl ++ [sb]) (names ++ [h.var]):=by
       refine((HM10.o.ext HX3.o (fun x hx=>?_) fun g hg hm=>?_).ext HE8.o (by simp) (by simp)).snoc hb0 (HR8.blk.cell 0) ((HEN.o.nil.trans HX3.o).trans HE8.o.nil |>.held (HCC.o 1 _ rfl) fun hm=>?_)
       ·rw[List.mem_singleton.1 hx];omega
       ·have:=HGL.o g hg;rw[List.mem_singleton.1 hm] at this;omega
       ·have:=List.mem_singleton.1 hm;simp only at this;omega
      have hfin:=mid_1 (c':=c8) HKK.o (by rw[HMM.o,hnl];exact HR8) ⟨rfl,HL1.o.2.trans HL1.o.1.symm⟩ (fun i g h=>h) (fun i g h=>h) hsq (fun bb o hb hm=>?_) hM8
      ·rw[HLN.o] at hfin;exact hfin
      ·cases hb
       rcases List.mem_cons.1 hm with h1|hm
       ·omega
       ·rcases List.mem_append.1 hm with hm|hm
        ·have:=HT0.o _ hm;omega
        ·have:=(HTQ.o _ hm).2;omega
     ·have hk1':(h.k==1)=false:=by simpa using hk1
      by_cases hk2:h.k=2
      ·
       have HKK:=hd hk2
       have HAE:Hd ((∀a∈h.conds,affE names a=0)/\h.conds.length<=4):=hd (by
        have:=HXF.o;cases this with
        | loop _ _ _ h1=>omega
        | when _ _ _ _ _ h1 h2=>exact⟨h1,h2.2⟩
        | store _ _ h1=>omega)
       have HCQ:Hd (SeqIn w10 h.cA 2 afC h.conds):=hd (HXS.o.all.1.keep (HE2.o.trans HEN.o));have HCA:Hd (∀a∈h.conds,AfIn w10 a):=hd fun a ha=>(HXS.o.all.2.1 a ha).keep (HE2.o.trans HEN.o)
       have g6:w10.cell? ⟨b,k*21+6,none⟩=some (.slice h.cA h.conds.length h.cc):=HEN.o.held (HCC.o 6 _ rfl) (List.not_mem_nil);obtain⟨cA,hcA⟩:∃cA,h.cA=cA:=⟨_,rfl⟩;rw[hcA] at HCQ g6;have HCAE:=hd hcA;clear hcA;generalize hm:h.conds.length=m at *;have HMM:=hd hm;clear hm;have qb:=HRC.o.blk.cell;have qbl:=HRC.o.blk.lt;unfold csArr at qb;have hm4:m<=4:=HAE.o.2;have HXX:Hd (Ext [sb] w10 w10):=hd (Ext.refl _ _);go_wp2_with fail
       clear qb qbl g6;go_loopw [121] (fun i wr=>∃(j:Nat) (cv:Value),i=.int .i64 j/\j<=m/\Hd (Ext [sb] w10 wr)/\Hd (RndC wq wr cb B b0 b1 b2 (.slice sA L1.length sc) av1 (v.ownBlock.toList ++ X) sb (.slice sA L1.length sc) av1 L1 AL1 (csArr b (k*21) ln 0 cv (.slice none 0 0) 0 (.slice (some ⟨g9,0,none⟩) (xs ++ [(k:Int)]).length c9) 0 zeroC (.pointer none) L1.length (0:Nat)) (some ⟨g9,0,none⟩) (xs ++ [(k:Int)]))/\Hd (wr.ownsRow w10.heap.size 126 9 cv j ((h.conds.take j).flatMap (lnL names)))) (fun i _=>(m-intOf i).toNat)
       case atStart=>exact⟨0,_,rfl,Nat.zero_le _,HXX,HRC,hd ⟨by simp,.inl ⟨rfl,rfl⟩⟩⟩
       case round=>
        obtain⟨j,cv,rfl,hjm,HXJ,HRJ,HCV⟩:=hrel;rename World=>wj
        by_cases hjl:j<m
        ·have hji:(j:Int)<(m:Int):=by omega
         obtain⟨ca,a,rfl,haj,hac⟩:=HCQ.o.at (i:=j) (by have:=HMM.o;omega);have HAJ:=hd haj;have hmem:=List.mem_of_getElem? haj;have HLI:=hd (fun W (hW:Ext [sb] w10 W)=>line_any a LA ln lc gl names W ((HXS.o.all.2.1 a hmem).keep (HLW.o W hW).2.2) (HLW.o W hW).1 (HLW.o W hW).2.1.n HLN.o H8.o (affE_spec (HAE.o.1 a hmem)).2.2.2.2)
         have hca0:ca<w0.heap.size:=by
          obtain⟨b',x',e1,e2,e3⟩:=HXS.o.all.1.at (i:=j) (by have:=HMM.o;omega);rw[HCAE.o] at e1;cases e1
          exact World.block_lt_of_cell? w0 _ (e3 0 _ rfl)
         have hcs:ca∉[sb]:=fun hm=>by rw[List.mem_singleton.1 hm] at hca0;omega
         have g0:wj.cell? ⟨ca,j*2,none⟩=some (.int .i64 a.base):=HXJ.o.held (hac 0 _ rfl) hcs;have g1:wj.cell? ⟨ca,j*2+1,none⟩=some (.slice a.A a.ts.length a.cap):=HXJ.o.held (hac 1 _ rfl) hcs;have hcaj:=World.block_lt_of_cell? wj _ g0;simp only at hcaj;clear hac hmem haj hcs;have hwj:=HXJ.o.size;have HBA:=hd (Blk.new wj 38 #[.int .i64 a.base,.slice a.A a.ts.length a.cap]);have HXA:=hd (HXJ.o.alloc (.cells #[.int .i64 a.base,.slice a.A a.ts.length a.cap] 38));have HEA:=hd ((Ext.refl [] wj).alloc (.cells #[.int .i64 a.base,.slice a.A a.ts.length a.cap] 38));go_upto_region 18 with fail
         generalize World.alloc wj _=wk at *;generalize hab:wj.heap.size=ab at *;have HRA:=hd (HRJ.o.keep HEA.o);have HCVA:=hd (own_ext HCV.o HEA.o (by simp))
         have HTC:Hd (∀q∈cv.ownBlock.toList,w10.heap.size<=q/\q<ab):=hd fun q hq=>by
          have h1:=HCV.o.lt q (Option.mem_toList.1 hq);rw[hab] at h1;exact h1
         have hsb10:=HRC.o.blk.lt;have hab10:w10.heap.size<=ab:=hab ▸ hwj;have habk:=HBA.o.lt;have HSN:Hd (sb∉cv.ownBlock.toList):=hd fun hm=>by have:=(HTC.o sb hm).1;omega
         have HAN:Hd (ab∉cv.ownBlock.toList):=hd fun hm=>by have:=(HTC.o ab hm).2;omega
         generalize hnews:lnL names a=news at *;have HNW:=hd hnews;clear hnews hab;obtain⟨i0,hi0,hz0,hz1,hz2⟩:=linInfo;have hxl:((h.conds.take j).flatMap (lnL names)).length=j*9:=by rw[flat_len _ 9 (fun x=>rfl),List.length_take,HMM.o,Nat.min_eq_left hjm]
         generalize hxs:(h.conds.take j).flatMap (lnL names)=ys at *;have HXY:=hd hxs;have HYL:=hd hxl;clear hxs hxl;refine rgW 12 cv.ownBlock.toList (fun p y=>cv.ownBlock=some p.block/\∃q,p.off=j*9+q/\news[q]? = some y) [(7,sFix (.agg (lnArr a.base (coefS names a.ts)))),(8,sCells wk.heap.size news),(9,sRowA w10.heap.size 126 9 j (ys ++ news) (fun g=>cv.ownBlock=some g\/wk.heap.size<=g))] ?_ ?_
         ·refine Stays.cons sFix.stays (Stays.cons (sCells.stays fun b j u y hb hu hf=>?_) (Stays.cons (sRowA.stays fun g i x y _ hx hf=>?_) Stays.nil))
          ·have:=(HTC.o b (Option.mem_toList.2 hf.1)).2;omega
          ·obtain⟨-,q,hq,hy⟩:=hf;simp only at hq;subst hq;rw[List.getElem?_append_right (by rw[HYL.o];omega),HYL.o,Nat.add_sub_cancel_left,hy] at hx;exact Option.some.inj hx
         simp only[List.take_succ_cons,List.take_zero,List.drop_succ_cons,List.drop_zero]
         repeat
          refine relAt_det rfl rfl ?_
          apply Exists.intro
          refine⟨fun wr nr hJ=>?_,?_⟩
          ·have qb:=(HRA.o.blk.ext hJ.1 HSN.o).cell;have qbl:=(HRA.o.blk.ext hJ.1 HSN.o).lt;have qa:=(HBA.o.ext hJ.1 HAN.o).cell;have qal:=(HBA.o.ext hJ.1 HAN.o).lt;unfold csArr at qb;clear hJ;(go_simp;try go_bits)
           first|rfl|exact⟨rfl,rfl⟩
          simp only[Act.put,List.setIfInBounds_toArray,List.set_cons_succ,List.set_cons_zero]
         refine rel_extL (sFix (.agg (lnArr a.base (coefS names a.ts)))) rfl rfl ?_ ?_
         ·apply Exists.intro
          apply Exists.intro
          refine⟨fun wr=>?_,fun wr nr hJ hf=>?_⟩
          ·go_simp
           first|exact⟨rfl,rfl⟩|rfl
          ·refine(HLI.o wr (HXA.o.step hJ.1 fun x hx=>.inr (HTC.o x hx).1)).mono ?_
           rintro e w' ⟨rfl,hE⟩;exact⟨(),rfl,trivial,hE⟩
         rintro⟨⟩;simp only[Act.put,List.setIfInBounds_toArray,List.set_cons_succ,List.set_cons_zero]
         repeat
          refine relAt_det rfl rfl ?_
          apply Exists.intro
          refine⟨fun wr nr hJ=>?_,?_⟩
          ·have qb:=(HRA.o.blk.ext hJ.1 HSN.o).cell;have qbl:=(HRA.o.blk.ext hJ.1 HSN.o).lt;have qa:=(HBA.o.ext hJ.1 HAN.o).cell;have qal:=(HBA.o.ext hJ.1 HAN.o).lt;unfold csArr at qb;clear hJ;(go_simp;try go_bits)
           first|rfl|exact⟨rfl,rfl⟩
          simp only[Act.put,List.setIfInBounds_toArray,List.set_cons_succ,List.set_cons_zero]
         refine rel_newL (sCells wk.heap.size news) rfl rfl (fun wr nr hJ hf=>?_) ?_
         ·refine⟨wr.heap.size,.cells (lnArr a.base (coefS names a.ts)) 126,?_,Ext.size hJ.1,fun j u hu=>?_⟩
          ·refine exec_buildSlice rfl _ _ _ _ (.agg (lnArr a.base (coefS names a.ts))) ?_ ?_
           ·rfl
           ·exact ln_slice wr a.base (coefS names a.ts)
          ·rw[(Blk.new wr 126 (lnArr a.base (coefS names a.ts))).cell j];rw[<-HNW.o] at hu;unfold lnL at hu;rw[Array.getElem?_toList] at hu;exact hu
         intro (b8:Nat);simp only[Act.put,List.setIfInBounds_toArray,List.set_cons_succ,List.set_cons_zero];refine rel_appL w10.heap.size b8 123 126 i0 _ 9 72 cv j 1 ys news (fun g=>cv.ownBlock=some g\/wk.heap.size<=g) _ _ rfl rfl rfl (by kernel_rfl) hi0 hz0 hz1 hz2 rfl (by decide) rfl rfl (by rw[<-HNW.o];rfl) (fun u hu=>?_) (fun w' n' hJ hf=>?_) (by omega) (fun g hg hb=>.inl (Option.mem_toList.2 hg)) (fun g hg=>hg.imp And.left id) (fun g q u hg hb hu=>⟨hg,q,rfl,hu⟩) ?_ ?_ ?_
         ·rw[<-HNW.o] at hu;unfold lnL lnArr at hu;simp only[List.mem_cons,List.not_mem_nil,or_false] at hu;rcases hu with rfl|rfl|rfl|rfl|rfl|rfl|rfl|rfl|rfl<;>rfl
         ·have h8:(sCells wk.heap.size news).V b8 w':=get_after hf 8 (by kernel_rfl)
          exact⟨own_rw HCVA.o hJ.2 fun g i x y hg hx hy=>by
           obtain⟨-,q,hq,-⟩:=hy;have h1:=(List.getElem?_eq_some_iff.1 hx).1;simp only at hq;rw[HYL.o] at h1;omega,h8.2⟩
         ·unfold maxLen;omega
         ·omega
         intro u9;simp only[Act.put,List.setIfInBounds_toArray,List.set_cons_succ,List.set_cons_zero]
         repeat
          refine relAt_det rfl rfl ?_
          apply Exists.intro
          refine⟨fun wr nr hJ=>?_,?_⟩
          ·have qb:=(HRA.o.blk.ext hJ.1 HSN.o).cell;have qbl:=(HRA.o.blk.ext hJ.1 HSN.o).lt;clear hJ;(go_simp;try go_bits)
           first|rfl|exact⟨rfl,rfl⟩
          simp only[Act.put,List.setIfInBounds_toArray,List.set_cons_succ,List.set_cons_zero]
         refine relAt_nil (fun wz hJ hF=>?_)
         obtain⟨gz,cz⟩:=u9;have hz:(sRowA w10.heap.size 126 9 j (ys ++ news) (fun g=>cv.ownBlock=some g\/wk.heap.size<=g)).V (gz,cz) wz:=hF 9;have HOZ:Hd (wz.ownsRow w10.heap.size 126 9 (.slice (some ⟨gz,0,none⟩) (j+1) cz) (j+1) (ys ++ news)):=hd hz.1;have HEZ:=hd hJ.1;clear hF hJ hz;dsimp only[sRowA];have HXZ:Hd (Ext (sb :: cv.ownBlock.toList) w10 wz):=hd (((HXA.o.mono fun x hx=>.inl (by rw[List.mem_singleton.1 hx];simp)):Ext (sb :: cv.ownBlock.toList) w10 wk).trans (HEZ.o.mono fun x hx=>.inl (List.mem_cons_of_mem _ hx)));have HBZ:=hd (HRA.o.blk.ext HEZ.o HSN.o);have qb:=HBZ.o.cell;have qf:=HBZ.o.frozen;have qbl:=HBZ.o.lt;unfold csArr at qb
         have HGZ:Hd (gz≠sb):=hd fun h=>by
          have hgz:=own_base HOZ.o gz rfl;rw[h] at hgz;have:=HRC.o.blk.lt;omega
         go_wp2_with fail
         go_roundw
         case rel=>
          have HES:Ext (sb :: cv.ownBlock.toList) w10 (wz.setCell ⟨sb,3,none⟩ (.slice (some ⟨gz,0,none⟩) (j+1) cz)):=HXZ.o.trans (Ext.setAt (.inl (by simp)) (Ext.refl _ wz))
          have hS:∀x∈sb :: cv.ownBlock.toList,x=sb\/w10.heap.size<=x:=fun x hx=>by
           rcases List.mem_cons.1 hx with rfl|hx
           ·exact .inl rfl
           ·exact .inr (HTC.o x hx).1
          refine⟨j+1,.slice (some ⟨gz,0,none⟩) (j+1) cz,by go_num,by omega,hd (HES.mono fun x hx=>(hS x hx).imp (fun h=>by rw[h];simp) id),hd (HRC.o.later hBc HES hS (HBZ.o.set_' 3 _ _ rfl)),hd ?_⟩
          have hz3:(wz.setCell ⟨sb,3,none⟩ (.slice (some ⟨gz,0,none⟩) (j+1) cz)).ownsRow w10.heap.size 126 9 (.slice (some ⟨gz,0,none⟩) (j+1) cz) (j+1) (ys ++ news):=own_ext HOZ.o (Ext.setAt (.inl (by simp)) (Ext.refl [sb] wz)) fun q hq=>by
           cases hq
           rw[List.mem_singleton];exact HGZ.o
          rw[<-HXY.o,<-HNW.o] at hz3;rw[List.take_add_one,HAJ.o,Option.toList_some,List.flatMap_append,List.flatMap_singleton];exact hz3
         case measure=>simp[intOf];omega
        ·have hjm2:j=m:=by omega
         subst hjm2;have htk:h.conds.take j=h.conds:=List.take_of_length_le (by rw[HMM.o];exact Nat.le_refl _);have HCV2:=HCV.o;rw[htk] at HCV2;obtain⟨CA,cc,rfl,hcs,hcb⟩:=own_held (lnL names) (fun x=>rfl) HCV2 HMM.o (by omega);go_wp2_with fail
         go_meet
         have hlw:=HLW.o wj HXJ.o;have hz10:=HXJ.o.size;have hsb10:=HRC.o.blk.lt
         have hTlt:∀q∈sb :: (v.ownBlock.toList ++ X ++ TS cb (.slice sA L1.length sc) av1),q<w10.heap.size:=fun q hq=>by
          rcases List.mem_cons.1 hq with h1|hq
          ·omega
          ·rcases List.mem_append.1 hq with hq|hq
           ·have:=HT0.o _ hq;omega
           ·have:=(HTQ.o _ hq).2;omega
         have hfin:=mid_2 (c':=lc) HKK.o (by rw[HMM.o,hnl];exact HRJ.o) ⟨rfl,HL1.o.2.trans HL1.o.1.symm⟩ (fun i g h=>h) (fun i g h=>h) ⟨hcs,fun bb o hb=>⟨(hcb bb o hb).2,fun hm=>by have:=(hcb bb o hb).1;have:=hTlt _ hm;omega⟩⟩ hlw.1 (by rw[HLN.o];exact HZ.o) HLAT.o hlw.2.1;rw[HLN.o] at hfin;exact hfin
      ·
       have hk2':(h.k==2)=false:=by simpa using hk2
       have hk3:h.k=3:=by
        have:=HXF.o;cases this with
        | loop _ _ _ h1=>omega
        | when _ _ _ h1=>omega
        | store _ _ h1=>exact h1
       have HKK:=hd hk3;clear hk3
       have HFX:Hd (affE names h.at_=0/\exprE names nb h.val=0):=hd (by
        have:=HXF.o;cases this with
        | loop _ _ _ h1=>omega
        | when _ _ _ h1=>omega
        | store _ _ _ _ _ h1 h2=>exact⟨h1,h2⟩)
       have qb:=HRC.o.blk.cell;have qf:=HRC.o.blk.frozen;have qbl:=HRC.o.blk.lt;unfold csArr at qb;have qc:=HRC.o.cd.blk.cell;have qcl:=HRC.o.cd.blk.lt;go_upto_region 9 with fail
       have HR1:=hd (HRC.o.set 5 (.int .i64 L1.length) (csArr b (k*21) ln 0 (.slice none 0 0) (.slice none 0 0) L1.length (.slice (some ⟨g9,0,none⟩) (xs ++ [(k:Int)]).length c9) 0 zeroC (.pointer none) L1.length (0:Nat)) rfl);have HX1:Hd (Ext [sb] w10 (w10.setCell ⟨sb,5,none⟩ (.int .i64 L1.length))):=hd (Ext.setAt (.inl (by simp)) (Ext.refl [sb] w10));generalize World.setCell _ _ _=w11 at *;clear qb qf qbl qc qcl;have hw1:=HX1.o.size;have hbs:b≠sb:=by have:=HCL.o sb hsbq;omega
       have HK1:Hd (∀(j:Nat) (v:Value),(stH h bs.length)[j]? = some v->w11.cell? ⟨b,k*21+j,none⟩=some v):=hd fun j v hv=>(HLW.o w11 HX1.o).2.2.held (HC0.o j v hv) (List.not_mem_nil)
       have HT9:Hd (∀t∈sb :: (v.ownBlock.toList ++ X ++ TS cb (.slice sA L1.length sc) av1),w0.heap.size<=t/\t<w11.heap.size):=hd fun q hq=>by
        rcases List.mem_cons.1 hq with rfl|hq
        ·exact⟨by omega,HR1.o.blk.lt⟩
        ·have hqq:=HRC.o.ext.size;rcases List.mem_append.1 hq with hq|hq
         ·refine⟨?_,by have:=HT0.o _ hq;omega⟩
          rcases List.mem_append.1 hq with hq|hq
          ·have:=(own1_blk HO.o (Option.mem_toList.1 hq)).1;have:=HE0.o.size;omega
          ·exact(HX.o _ hq).1
         ·have:=HTQ.o _ hq;omega
       generalize hT9:sb :: (v.ownBlock.toList ++ X ++ TS cb (.slice sA L1.length sc) av1)=T9 at *;have HTT:=hd hT9;clear hT9;have HXV:Hd (ExIn w0 h.val):=hd HXS.o.all.2.2.2.1
       have HEX:Hd (∀(j:Nat) (v:Value),(exC h.val)[j]? = some v->w0.cell? ⟨b,k*21+11+j,none⟩=some v):=hd fun j u hu=>by
        have h1:(stH h bs.length)[11+j]? = (exC h.val)[j]?:=by
         cases hv:h.val with
         | mk eh ks=>
          rcases Nat.lt_or_ge j 10 with hj|hj
          ·have:j=0\/j=1\/j=2\/j=3\/j=4\/j=5\/j=6\/j=7\/j=8\/j=9:=by omega
           unfold stH;rw[hv];rcases this with rfl|rfl|rfl|rfl|rfl|rfl|rfl|rfl|rfl|rfl<;>rfl
          ·rw[List.getElem?_eq_none (by simp[stH,stK];omega),List.getElem?_eq_none (by simp[exC,exH];omega)]
        rw[Nat.add_assoc];exact HC0.o (11+j) u (h1.trans hu)
       have HLI:=hd (fun W (hW:Ext [] w11 W)=>line_any h.at_ LA ln lc gl names W (HXS.o.all.2.2.1.keep ((HLW.o w11 HX1.o).2.2.trans hW)) ((HLW.o w11 HX1.o).1.keep hW) ((HLW.o w11 HX1.o).2.1.n.keep hW) HLN.o H8.o (affE_spec HFX.o.1).2.2.2.2);have HCE:=hd (fun W (hW:Ext [] w11 W)=>cex_any h.val b (k*21+11) LA ln lc gl names nb T9 w0 W HXV.o HEX.o ((HLW.o w11 HX1.o).2.2.trans hW) ((HLW.o w11 HX1.o).1.keep hW) ((HLW.o w11 HX1.o).2.1.n.keep hW) HLN.o H8.o HFX.o.2 (fun t ht=>⟨(HT9.o t ht).1,Nat.lt_of_lt_of_le (HT9.o t ht).2 hW.size⟩));have g9b:=HK1.o 9 _ rfl;have HK9:=hd (show w11.cell? ⟨b,k*21+9,none⟩=some (.int .i64 h.at_.base) from HK1.o 9 _ rfl);have HK10:=hd (show w11.cell? ⟨b,k*21+10,none⟩=some (.slice h.at_.A h.at_.ts.length h.at_.cap) from HK1.o 10 _ rfl);clear g9b;have HST9:Hd (sb∈T9):=hd (by rw[<-HTT.o];simp);refine rgA 22 21 [sb] [(10,sFix (.agg (lnArr h.at_.base (coefS names h.at_.ts)))),(18,sCE w11.heap.size T9 names h.val),(21,⟨Unit,(),fun _=>undef,fun _ w=>Blk w sb 129 (csArr b (k*21) ln 0 (.slice none 0 0) (.slice none 0 0) L1.length (.slice (some ⟨g9,0,none⟩) (xs ++ [(k:Int)]).length c9) h.at_.base (coefS names h.at_.ts) (.pointer none) L1.length (0:Nat))⟩)] rfl (by simp[kinds]) (fun oi h=>by cases h;rfl) ?_ ?_
       ·exact kinds_three (fun j hj u w w' hR h=>trivial) (fun j hj u w w' hR h=>⟨h.1,h.2.step hR.all (fun x hx=>.inl (by rw[List.mem_singleton.1 hx];exact HST9.o)) hR.all.size fun x hx=>.inl hx⟩) fun j hj u w w' hR h=>h.ext (hR.pre hj) (by simp)
       simp only[List.take_succ_cons,List.take_zero,List.drop_succ_cons,List.drop_zero]
       repeat
        refine relAt_detU rfl rfl ?_
        apply Exists.intro
        refine⟨fun wr nr hg hJ=>?_,?_⟩
        ·clear hg;clear hJ;(go_simp;try go_bits)
         first|rfl|exact⟨rfl,rfl⟩
        simp only[Act.put,List.setIfInBounds_toArray,List.set_cons_succ,List.set_cons_zero]
       refine relAt_detU rfl rfl ?_
       apply Exists.intro
       refine⟨fun wr nr hg hJ=>?_,?_⟩
       ·have hA:=hJ.pre (hg.later 21 (by kernel_rfl));have qb:=(HR1.o.blk.ext hA (List.not_mem_nil)).cell;have qbl:=(HR1.o.blk.ext hA (List.not_mem_nil)).lt;have q9:=Ext.held hA HK9.o (List.not_mem_nil);have q10:=Ext.held hA HK10.o (List.not_mem_nil);have q9l:=World.block_lt_of_cell? wr _ q9;simp only at q9l;unfold csArr at qb;clear hA hg;clear hJ;(go_simp;try go_bits)
        first|rfl|exact⟨rfl,rfl⟩
       simp only[Act.put,List.setIfInBounds_toArray,List.set_cons_succ,List.set_cons_zero]
       repeat
        refine relAt_detU rfl rfl ?_
        apply Exists.intro
        refine⟨fun wr nr hg hJ=>?_,?_⟩
        ·clear hg;clear hJ;(go_simp;try go_bits)
         first|rfl|exact⟨rfl,rfl⟩
        simp only[Act.put,List.setIfInBounds_toArray,List.set_cons_succ,List.set_cons_zero]
       refine relAt_detU rfl rfl ?_
       apply Exists.intro
       refine⟨fun wr nr hg hJ=>?_,?_⟩
       ·have hA:=hJ.pre (hg.later 21 (by kernel_rfl));have qb:=(HR1.o.blk.ext hA (List.not_mem_nil)).cell;have qbl:=(HR1.o.blk.ext hA (List.not_mem_nil)).lt;have q9:=Ext.held hA HK9.o (List.not_mem_nil);have q10:=Ext.held hA HK10.o (List.not_mem_nil);have q9l:=World.block_lt_of_cell? wr _ q9;simp only at q9l;unfold csArr at qb;clear hA hg;clear hJ;(go_simp;try go_bits)
        first|rfl|exact⟨rfl,rfl⟩
       simp only[Act.put,List.setIfInBounds_toArray,List.set_cons_succ,List.set_cons_zero]
       repeat
        refine relAt_detU rfl rfl ?_
        apply Exists.intro
        refine⟨fun wr nr hg hJ=>?_,?_⟩
        ·clear hg;clear hJ;(go_simp;try go_bits)
         first|rfl|exact⟨rfl,rfl⟩
        simp only[Act.put,List.setIfInBounds_toArray,List.set_cons_succ,List.set_cons_zero]
       refine rel_extA (sFix (.agg (lnArr h.at_.base (coefS names h.at_.ts)))) rfl rfl (by decide) ?_ ?_
       ·apply Exists.intro
        apply Exists.intro
        refine⟨fun wr=>?_,fun wr r hg hJ hf=>?_⟩
        ·go_simp
         first|exact⟨rfl,rfl⟩|rfl
        ·refine(HLI.o wr (hJ.pre (hg.later 21 (by kernel_rfl)))).mono ?_
         rintro e w' ⟨rfl,hE⟩;exact⟨(),rfl,trivial,hE⟩
       rintro⟨⟩;simp only[Act.put,List.setIfInBounds_toArray,List.set_cons_succ,List.set_cons_zero]
       repeat
        refine relAt_detU rfl rfl ?_
        apply Exists.intro
        refine⟨fun wr nr hg hJ=>?_,?_⟩
        ·clear hg;clear hJ;(go_simp;try go_bits)
         first|rfl|exact⟨rfl,rfl⟩
        simp only[Act.put,List.setIfInBounds_toArray,List.set_cons_succ,List.set_cons_zero]
       refine relAt_detU rfl rfl ?_
       apply Exists.intro
       refine⟨fun wr nr hg hJ=>?_,?_⟩
       ·have hA:=hJ.pre (hg.later 21 (by kernel_rfl));have qb:=(HR1.o.blk.ext hA (List.not_mem_nil)).cell;have qbl:=(HR1.o.blk.ext hA (List.not_mem_nil)).lt;have q9:=Ext.held hA HK9.o (List.not_mem_nil);have q10:=Ext.held hA HK10.o (List.not_mem_nil);have q9l:=World.block_lt_of_cell? wr _ q9;simp only at q9l;unfold csArr at qb;clear hA hg;clear hJ;(go_simp;try go_bits)
        first|rfl|exact⟨rfl,rfl⟩
       simp only[Act.put,List.setIfInBounds_toArray,List.set_cons_succ,List.set_cons_zero]
       repeat
        refine relAt_detU rfl rfl ?_
        apply Exists.intro
        refine⟨fun wr nr hg hJ=>?_,?_⟩
        ·clear hg;clear hJ;(go_simp;try go_bits)
         first|rfl|exact⟨rfl,rfl⟩
        simp only[Act.put,List.setIfInBounds_toArray,List.set_cons_succ,List.set_cons_zero]
       refine rel_extA (sCE w11.heap.size T9 names h.val) rfl rfl (by decide) ?_ ?_
       ·apply Exists.intro
        apply Exists.intro
        refine⟨fun wr=>?_,fun wr r hg hJ hf=>?_⟩
        ·go_simp
         first|exact⟨rfl,rfl⟩|rfl
        ·have hW:=hJ.pre (hg.later 21 (by kernel_rfl));refine(HCE.o wr hW).mono ?_
         rintro e w' ⟨g,rfl,hE,hg,hX⟩;exact⟨g,rfl,⟨Nat.le_trans hW.size hg,hX⟩,hE⟩
       intro (vb:Nat);simp only[Act.put,List.setIfInBounds_toArray,List.set_cons_succ,List.set_cons_zero]
       repeat
        refine relAt_detU rfl rfl ?_
        apply Exists.intro
        refine⟨fun wr nr hg hJ=>?_,?_⟩
        ·clear hg;clear hJ;(go_simp;try go_bits)
         first|rfl|exact⟨rfl,rfl⟩
        simp only[Act.put,List.setIfInBounds_toArray,List.set_cons_succ,List.set_cons_zero]
       refine relAt_sayU _ rfl rfl (fun _=>rfl) (fun w12 r hg hJ hf=>?_) ?_
       ·have hA:=hJ.pre hg.mine;have HB12:=HR1.o.blk.ext hA (List.not_mem_nil);have hB13:=HB12.many (lnArr h.at_.base (coefS names h.at_.ts)).toList 7;rw[csArr_ln] at hB13;have hE13:Ext [sb] w12 (w12.setCells sb 7 (lnArr h.at_.base (coefS names h.at_.ts)).toList):=Ext.many (.inl (by simp)) _ _ _ (Ext.refl _ _);refine⟨(),w12.setCells sb 7 (lnArr h.at_.base (coefS names h.at_.ts)).toList,?_,hB13,hJ.app hE13,by unfold RA1;rw[if_pos rfl];exact hE13⟩
        refine exec_store_mid rfl _ w12 sb 7 (lnArr h.at_.base (coefS names h.at_.ts)) _ 129 ?_ ?_ HB12 ?_ infoLn (lnArr_one _ _)
        ·rfl
        ·rfl
        ·exact Nat.le_of_ble_eq_true rfl
       rintro⟨⟩;simp only[Act.put,List.setIfInBounds_toArray,List.set_cons_succ,List.set_cons_zero];refine relAt_nilU (fun w13 r hr hJ hF=>?_)
       have hv:(sCE w11.heap.size T9 names h.val).V vb w13:=hF 18;have hb:Blk w13 sb 129 (csArr b (k*21) ln 0 (.slice none 0 0) (.slice none 0 0) L1.length (.slice (some ⟨g9,0,none⟩) (xs ++ [(k:Int)]).length c9) h.at_.base (coefS names h.at_.ts) (.pointer none) L1.length (0:Nat)):=hF 21;have HCX:=hd hv.2;have HVB:=hd hv.1;have HB13:=hd hb;have HE13:Hd (Ext [sb] w11 w13):=hd hJ.all;clear hF hJ hv hb hr;have HB14:=hd (HB13.o.set_' 16 (ptV vb) (csArr b (k*21) ln 0 (.slice none 0 0) (.slice none 0 0) L1.length (.slice (some ⟨g9,0,none⟩) (xs ++ [(k:Int)]).length c9) h.at_.base (coefS names h.at_.ts) (ptV vb) L1.length (0:Nat)) rfl);have HE14:=hd (Ext.setAt (b:=sb) (i:=16) (u:=ptV vb) (.inl (by simp)) (Ext.refl [sb] w13));have qb:=HB13.o.cell;have qf:=HB13.o.frozen;have qbl:=HB13.o.lt;unfold csArr at qb;dsimp only[sCE];go_upto_region 10 with fail
       have HX14:Hd (Ext [sb] w11 (w13.setCell ⟨sb,16,none⟩ (ptV vb))):=hd (HE13.o.trans HE14.o);change Code.wp _ _ _ _ (w13.setCell ⟨sb,16,none⟩ (ptV vb));generalize World.setCell _ _ _=w14 at *;clear qb qf qbl HB13;have HX10:Hd (Ext [sb] w10 w14):=hd (HX1.o.trans HX14.o);have HR14:=hd (HRC.o.later hBc HX10.o (fun x hx=>.inl (List.mem_singleton.1 hx)) HB14.o);have HC14:=hd HR14.o.cd;have HLE:Hd (AL1.length=L1.length):=hd (HL1.o.2.trans HL1.o.1.symm);have hz14:=HX14.o.size
       have HNS:Hd (∀g,(Value.slice sA L1.length sc).ownBlock=some g->B<=g/\g<w14.heap.size/\g≠cb/\g≠sb/\av1.ownBlock≠some g):=hd fun g hg=>by
        have h1:=own1_blk HC14.o.st hg;refine⟨h1.1,h1.2,fun e=>?_,fun e=>HR14.o.sb2 (e ▸ List.mem_cons_of_mem _ (List.mem_append.2 (.inl (by rw[hg];simp)))),fun e=>?_⟩
        ·obtain⟨C,hC⟩:=own_blk HC14.o.st hg;rw[e] at hC;exact absurd (Blk.type hC HC14.o.blk) (by decide)
        ·obtain⟨C,hC⟩:=own_blk HC14.o.st hg;obtain⟨D,hD⟩:=own_blk HC14.o.ar e;exact absurd (Blk.type hC hD) (by decide)
       have HNA:Hd (∀g,av1.ownBlock=some g->B<=g/\g<w14.heap.size/\g≠cb/\g≠sb):=hd fun g hg=>by
        have h1:=own1_blk HC14.o.ar hg;refine⟨h1.1,h1.2,fun e=>?_,fun e=>HR14.o.sb2 (e ▸ List.mem_cons_of_mem _ (List.mem_append.2 (.inr (by rw[hg];simp))))⟩
        obtain⟨C,hC⟩:=own_blk HC14.o.ar hg;rw[e] at hC;exact absurd (Blk.type hC HC14.o.blk) (by decide)
       have hcb14:cb<w14.heap.size:=HC14.o.blk.lt;have HBw:Hd (B<=w14.heap.size):=hd (by omega);obtain⟨i0,hi0,hz0,hz1,hz2⟩:=stmInfo;obtain⟨i1,hi1,hy0,hy1,hy2⟩:=srwInfo
       have HFT:Hd (∀i y,¬((Addr.mk cb i none).off=L1.length/\(((Value.slice sA L1.length sc).ownBlock=some (Addr.mk cb i none).block/\y=ptV sb)\/(av1.ownBlock=some (Addr.mk cb i none).block/\y=Value.slice LA ln lc)))):=hd fun i y h=>by
        rcases h.2 with h1|h1
        ·exact(HNS.o cb h1.1).2.2.1 rfl
        ·exact(HNA.o cb h1.1).2.2.1 rfl
       have HCT:Hd (cb∉(Value.slice sA L1.length sc).ownBlock.toList ++ av1.ownBlock.toList):=hd fun h=>by
        rcases List.mem_append.1 h with h1|h1
        ·exact(HNS.o cb (Option.mem_toList.1 h1)).2.2.1 rfl
        ·exact(HNA.o cb (Option.mem_toList.1 h1)).2.2.1 rfl
       refine rgK 19 18 cb ((Value.slice sA L1.length sc).ownBlock.toList ++ av1.ownBlock.toList) (fun p y=>p.off=L1.length/\(((Value.slice sA L1.length sc).ownBlock=some p.block/\y=ptV sb)\/(av1.ownBlock=some p.block/\y=Value.slice LA ln lc)))
        [(7,sCells w14.heap.size [ptV sb]),(8,sRowA B 117 1 L1.length (L1.map ptV ++ [ptV sb]) (fun g=>(Value.slice sA L1.length sc).ownBlock=some g\/w14.heap.size<=g)),
         (14,sCells w14.heap.size [Value.slice LA ln lc]),(15,sRowA B 124 1 L1.length (AL1 ++ [Value.slice LA ln lc]) (fun g=>av1.ownBlock=some g\/w14.heap.size<=g)),
         (18,⟨Nat×Nat,(0,0),fun _=>undef,fun u w=>Blk w cb 174 #[b0,b1,b2,.slice (some ⟨u.1,0,none⟩) (L1.length+1:Nat) u.2,av1]/\(sRowA B 117 1 L1.length (L1.map ptV ++ [ptV sb]) (fun g=>(Value.slice sA L1.length sc).ownBlock=some g\/w14.heap.size<=g)).V u w⟩)] rfl (by simp[kinds]) (fun oi h=>by cases h;rfl) ?_ ?_
       ·refine StaysK.done (StaysK.cons (sCells.staysK hcb14 fun b j u y hb hu hf=>?_) (StaysK.cons (sRowA.staysK (fun h=>?_) fun g i x y hg hx hf=>?_) (StaysK.cons (sCells.staysK hcb14 fun b j u y hb hu hf=>?_) (StaysK.cons (sRowA.staysK (fun h=>?_) fun g i x y hg hx hf=>?_) (StaysK.cons (fun j hj x w w' hR hV=>⟨hV.1.rw (hR.rw hj) HFT.o,sRowA.staysK (fun h=>?_) (fun g i x y hg hx hf=>?_) j hj x w w' hR hV.2⟩) StaysK.nil)))))
        ·rcases hf.2 with h1|h1
         ·have:=(HNS.o b h1.1).2.1;omega
         ·have:=(HNA.o b h1.1).2.1;omega
        ·rcases h with h1|h1
         ·exact(HNS.o cb h1).2.2.1 rfl
         ·omega
        ·obtain⟨h1,h2⟩:=hf;simp only at h1;subst h1;rcases h2 with h2|h2
         ·rw[List.getElem?_append_right (by simp),List.length_map,Nat.sub_self] at hx;cases hx
          exact h2.2
         ·rcases hg with h3|h3
          ·exact absurd h2.1 (HNS.o g h3).2.2.2.2
          ·have:=(HNA.o g h2.1).2.1;omega
        ·rcases hf.2 with h1|h1
         ·have:=(HNS.o b h1.1).2.1;omega
         ·have:=(HNA.o b h1.1).2.1;omega
        ·rcases h with h1|h1
         ·exact(HNA.o cb h1).2.2.1 rfl
         ·omega
        ·obtain⟨h1,h2⟩:=hf;simp only at h1;subst h1;rcases h2 with h2|h2
         ·rcases hg with h3|h3
          ·exact absurd h3 (HNS.o g h2.1).2.2.2.2
          ·have:=(HNS.o g h2.1).2.1;omega
         ·rw[List.getElem?_append_right (by rw[HLE.o];exact Nat.le_refl _),HLE.o,Nat.sub_self] at hx;cases hx
          exact h2.2
        ·rcases h with h1|h1
         ·exact(HNS.o cb h1).2.2.1 rfl
         ·omega
        ·obtain⟨h1,h2⟩:=hf;simp only at h1;subst h1;rcases h2 with h2|h2
         ·rw[List.getElem?_append_right (by simp),List.length_map,Nat.sub_self] at hx;cases hx
          exact h2.2
         ·rcases hg with h3|h3
          ·exact absurd h2.1 (HNS.o g h3).2.2.2.2
          ·have:=(HNA.o g h2.1).2.1;omega
       simp only[List.take_succ_cons,List.take_zero,List.drop_succ_cons,List.drop_zero]
       repeat
        refine relAt_detU rfl rfl ?_
        apply Exists.intro
        refine⟨fun wr nr hg hJ=>?_,?_⟩
        ·clear hg;clear hJ;(go_simp;try go_bits)
         first|rfl|exact⟨rfl,rfl⟩
        simp only[Act.put,List.setIfInBounds_toArray,List.set_cons_succ,List.set_cons_zero]
       refine relAt_detU rfl rfl ?_
       apply Exists.intro
       refine⟨fun wr nr hg hJ=>?_,?_⟩
       ·have hA:=hJ.pre (hg.later 18 (by kernel_rfl));have qc:=(HC14.o.blk.ext hA.1 HCT.o).cell;have qcl:=(HC14.o.blk.ext hA.1 HCT.o).lt;clear hA hg;clear hJ;(go_simp;try go_bits)
        first|rfl|exact⟨rfl,rfl⟩
       simp only[Act.put,List.setIfInBounds_toArray,List.set_cons_succ,List.set_cons_zero]
       repeat
        refine relAt_detU rfl rfl ?_
        apply Exists.intro
        refine⟨fun wr nr hg hJ=>?_,?_⟩
        ·clear hg;clear hJ;(go_simp;try go_bits)
         first|rfl|exact⟨rfl,rfl⟩
        simp only[Act.put,List.setIfInBounds_toArray,List.set_cons_succ,List.set_cons_zero]
       refine rel_newK (sCells w14.heap.size [ptV sb]) rfl rfl (by decide) (fun wr r hg hJ hf=>?_) ?_
       ·refine⟨wr.heap.size,.cells #[ptV sb] 117,?_,hJ.all.size,cells_one _ _ _ ((Blk.new wr 117 #[ptV sb]).cell 0)⟩
        (go_simp;try go_bits)
        first|rfl|exact⟨rfl,rfl⟩
       intro (b7:Nat);simp only[Act.put,List.setIfInBounds_toArray,List.set_cons_succ,List.set_cons_zero];refine rel_appK B b7 124 117 i0 _ 1 8 (.slice sA L1.length sc) L1.length 1 (L1.map ptV) [ptV sb] (fun g=>(Value.slice sA L1.length sc).ownBlock=some g\/w14.heap.size<=g) _ _ (by decide) rfl rfl rfl (by kernel_rfl) hi0 hz0 hz1 hz2 rfl (by decide) rfl rfl rfl (fun u hu=>by rw[List.mem_singleton.1 hu];rfl) (fun w' r hg hJ hf=>?_) HBw.o (fun g hg hb=>.inl (List.mem_append.2 (.inl (Option.mem_toList.2 hg)))) (fun g hg=>hg.imp And.left id) (fun g j u hg hb hu=>?_) ?_ ?_ ?_
       ·have h18:=hg.later 18 (by kernel_rfl);have h7:(sCells w14.heap.size [ptV sb]).V b7 w':=get_after hf 7 (by kernel_rfl);refine⟨h18,?_,h7.2⟩
        have h9:=own_rw HC14.o.st (hJ.pre h18).2 fun g i x y hg hx hy=>by
         have h1:=(List.getElem?_eq_some_iff.1 hx).1;rw[List.length_map] at h1;have h2:i=L1.length:=hy.1;omega
        rw[List.length_map] at h9;exact h9
       ·have h1:j=0:=by have:=(List.getElem?_eq_some_iff.1 hu).1;simp at this;exact this
        subst h1;cases hu
        exact⟨by simp,.inl ⟨hg,rfl⟩⟩
       ·unfold maxLen;omega
       ·omega
       intro u8;simp only[Act.put,List.setIfInBounds_toArray,List.set_cons_succ,List.set_cons_zero]
       repeat
        refine relAt_detU rfl rfl ?_
        apply Exists.intro
        refine⟨fun wr nr hg hJ=>?_,?_⟩
        ·clear hg;clear hJ;(go_simp;try go_bits)
         first|rfl|exact⟨rfl,rfl⟩
        simp only[Act.put,List.setIfInBounds_toArray,List.set_cons_succ,List.set_cons_zero]
       refine relAt_detU rfl rfl ?_
       apply Exists.intro
       refine⟨fun wr nr hg hJ=>?_,?_⟩
       ·have hA:=hJ.pre (hg.later 18 (by kernel_rfl));have qc:=(HC14.o.blk.ext hA.1 HCT.o).cell;have qcl:=(HC14.o.blk.ext hA.1 HCT.o).lt;clear hA hg;clear hJ;(go_simp;try go_bits)
        first|rfl|exact⟨rfl,rfl⟩
       simp only[Act.put,List.setIfInBounds_toArray,List.set_cons_succ,List.set_cons_zero]
       repeat
        refine relAt_detU rfl rfl ?_
        apply Exists.intro
        refine⟨fun wr nr hg hJ=>?_,?_⟩
        ·clear hg;clear hJ;(go_simp;try go_bits)
         first|rfl|exact⟨rfl,rfl⟩
        simp only[Act.put,List.setIfInBounds_toArray,List.set_cons_succ,List.set_cons_zero]
       refine rel_newK (sCells w14.heap.size [Value.slice LA ln lc]) rfl rfl (by decide) (fun wr r hg hJ hf=>?_) ?_
       ·refine⟨wr.heap.size,.cells #[Value.slice LA ln lc] 124,?_,hJ.all.size,cells_one _ _ _ ((Blk.new wr 124 #[Value.slice LA ln lc]).cell 0)⟩
        (go_simp;try go_bits)
        first|rfl|exact⟨rfl,rfl⟩
       intro (b14:Nat);simp only[Act.put,List.setIfInBounds_toArray,List.set_cons_succ,List.set_cons_zero];refine rel_appK B b14 172 124 i1 _ 1 24 av1 L1.length 1 AL1 [Value.slice LA ln lc] (fun g=>av1.ownBlock=some g\/w14.heap.size<=g) _ _ (by decide) rfl rfl rfl (by kernel_rfl) hi1 hy0 hy1 hy2 rfl (by decide) rfl rfl rfl (fun u hu=>by rw[List.mem_singleton.1 hu];rfl) (fun w' r hg hJ hf=>?_) HBw.o (fun g hg hb=>.inl (List.mem_append.2 (.inr (Option.mem_toList.2 hg)))) (fun g hg=>hg.imp And.left id) (fun g j u hg hb hu=>?_) ?_ ?_ ?_
       ·have h18:=hg.later 18 (by kernel_rfl);have h7:(sCells w14.heap.size [Value.slice LA ln lc]).V b14 w':=get_after hf 14 (by kernel_rfl);refine⟨h18,?_,h7.2⟩
        have h9:=own_rw HC14.o.ar (hJ.pre h18).2 fun g i x y hg hx hy=>by
         have h1:=(List.getElem?_eq_some_iff.1 hx).1;rw[HLE.o] at h1;have h2:i=L1.length:=hy.1;omega
        rw[HLE.o] at h9;exact h9
       ·have h1:j=0:=by have:=(List.getElem?_eq_some_iff.1 hu).1;simp at this;exact this
        subst h1;cases hu
        exact⟨by simp,.inr ⟨hg,rfl⟩⟩
       ·unfold maxLen;omega
       ·omega
       intro u15;simp only[Act.put,List.setIfInBounds_toArray,List.set_cons_succ,List.set_cons_zero]
       repeat
        refine relAt_detU rfl rfl ?_
        apply Exists.intro
        refine⟨fun wr nr hg hJ=>?_,?_⟩
        ·clear hg;clear hJ;(go_simp;try go_bits)
         first|rfl|exact⟨rfl,rfl⟩
        simp only[Act.put,List.setIfInBounds_toArray,List.set_cons_succ,List.set_cons_zero]
       refine relAt_sayU _ rfl rfl (fun _=>rfl) (fun wr r hg hJ hf=>?_) ?_
       ·have hA:=hJ.pre hg.mine;have hB:=HC14.o.blk.ext hA.1 HCT.o;have h8:=get_after hf 8 (by kernel_rfl);have hE:Ext [cb] wr (wr.setCell ⟨cb,2+1,none⟩ (.slice (some ⟨u8.1,0,none⟩) (L1.length+1:Nat) u8.2)):=Ext.setAt (.inl (by simp)) (Ext.refl _ _);have h9:(sRowA B 117 1 L1.length (L1.map ptV ++ [ptV sb]) (fun g=>(Value.slice sA L1.length sc).ownBlock=some g\/w14.heap.size<=g)).V u8 wr:=h8;refine⟨u8,wr.setCell ⟨cb,3,none⟩ (.slice (some ⟨u8.1,0,none⟩) (L1.length+1:Nat) u8.2),?_,⟨hB.set_' 3 _ _ rfl,own_ext h9.1 hE fun q hq hm=>?_,h9.2⟩,hJ.save hE,by unfold RK;rw[if_pos rfl];exact hE⟩
        ·have qc:=hB.cell;have qf:=hB.frozen;have qcl:=hB.lt;clear hJ hg hf hA hE h8 h9;(go_simp;try go_bits)
        ·cases hq
         have h1:=List.mem_singleton.1 hm;rcases h9.2 with h2|h2
         ·exact(HNS.o _ h2).2.2.1 h1
         ·have h3:u8.1=cb:=h1;have h4:w14.heap.size<=u8.1:=h2;omega
       intro (u18:Nat×Nat);simp only[Act.put,List.setIfInBounds_toArray,List.set_cons_succ,List.set_cons_zero];refine relAt_nilU (fun w15 r hr hJ hF=>?_)
       obtain⟨g8,c8⟩:=u18;obtain⟨g15,c15⟩:=u15;have h18:Blk w15 cb 174 #[b0,b1,b2,.slice (some ⟨g8,0,none⟩) (L1.length+1:Nat) c8,av1]/\(sRowA B 117 1 L1.length (L1.map ptV ++ [ptV sb]) (fun g=>(Value.slice sA L1.length sc).ownBlock=some g\/w14.heap.size<=g)).V (g8,c8) w15:=hF 18;have h15:(sRowA B 124 1 L1.length (AL1 ++ [Value.slice LA ln lc]) (fun g=>av1.ownBlock=some g\/w14.heap.size<=g)).V (g15,c15) w15:=hF 15;have HB15:=hd h18.1
       have HO8:Hd (Own1 w15 B 117 (.slice (some ⟨g8,0,none⟩) (L1.length+1:Nat) c8) ((L1 ++ [sb]).map ptV)):=hd (by
        have:=h18.2.1;unfold Own1;rw[List.length_map,List.length_append,List.map_append];exact this)
       have HO15:Hd (Own1 w15 B 124 (.slice (some ⟨g15,0,none⟩) (L1.length+1:Nat) c15) (AL1 ++ [Value.slice LA ln lc])):=hd (by
        have:=h15.1;unfold Own1;rw[List.length_append,HLE.o];exact this)
       have HG8:Hd ((Value.slice sA L1.length sc).ownBlock=some g8\/w14.heap.size<=g8):=hd h18.2.2;have HG15:Hd (av1.ownBlock=some g15\/w14.heap.size<=g15):=hd h15.2;have HE15:Hd (Ext (cb :: ((Value.slice sA L1.length sc).ownBlock.toList ++ av1.ownBlock.toList)) w14 w15):=hd hJ.all;clear hF hJ h18 h15 hr;have qc:=HB15.o.cell;have qf:=HB15.o.frozen;have qcl:=HB15.o.lt;dsimp only[sRowA];have HB16:=hd (HB15.o.set_' 4 (.slice (some ⟨g15,0,none⟩) (L1.length+1:Nat) c15) #[b0,b1,b2,.slice (some ⟨g8,0,none⟩) (L1.length+1:Nat) c8,.slice (some ⟨g15,0,none⟩) (L1.length+1:Nat) c15] rfl);have HE16:=hd (Ext.setAt (b:=cb) (i:=4) (u:=Value.slice (some ⟨g15,0,none⟩) (L1.length+1:Nat) c15) (.inl (by simp)) (Ext.refl [cb] w15));go_wp2_with fail
       go_meet
       generalize World.setCell _ _ _=w16 at *;have hz15:=HE15.o.size;have hz16:=HE16.o.size;have HEN6:Hd (Ext (TS cb (.slice sA L1.length sc) av1) w14 w16):=hd (HE15.o.trans (HE16.o.mono fun x hx=>.inl (by rw[List.mem_singleton.1 hx];simp)));have HTO:Hd (∀x∈TS cb (.slice sA L1.length sc) av1,x∈T9):=hd fun x hx=>by rw[<-HTT.o];exact List.mem_cons_of_mem _ (List.mem_append.2 (.inr hx))
       have HTN0:Hd (∀x∈TS cb (.slice (some ⟨g8,0,none⟩) (L1.length+1:Nat) c8) (.slice (some ⟨g15,0,none⟩) (L1.length+1:Nat) c15),x∈TS cb (.slice sA L1.length sc) av1\/w14.heap.size<=x):=hd fun x hx=>by
        rcases List.mem_cons.1 hx with h1|h1
        ·left;rw[h1];exact List.mem_cons_self ..
        ·rcases List.mem_append.1 h1 with h1|h1
         ·have h2:=Option.mem_toList.1 h1;cases h2
          exact HG8.o.imp (fun h=>List.mem_cons_of_mem _ (List.mem_append.2 (.inl (Option.mem_toList.2 h)))) id
         ·have h2:=Option.mem_toList.1 h1;cases h2
          exact HG15.o.imp (fun h=>List.mem_cons_of_mem _ (List.mem_append.2 (.inr (Option.mem_toList.2 h)))) id
       have HTN:Hd (∀x∈sb :: (v.ownBlock.toList ++ X ++ TS cb (.slice (some ⟨g8,0,none⟩) (L1.length+1:Nat) c8) (.slice (some ⟨g15,0,none⟩) (L1.length+1:Nat) c15)),x∈T9\/w14.heap.size<=x):=hd fun x hx=>by
        rw[<-HTT.o];rcases List.mem_cons.1 hx with h1|h1
        ·left;rw[h1];exact List.mem_cons_self ..
        ·rcases List.mem_append.1 h1 with h1|h1
         ·left;exact List.mem_cons_of_mem _ (List.mem_append.2 (.inl h1))
         ·exact(HTN0.o x h1).imp (fun h=>List.mem_cons_of_mem _ (List.mem_append.2 (.inr h))) id
       have hsb14:=HB14.o.lt;have hscb:sb≠cb:=fun h=>HR14.o.sb2 (h ▸ List.mem_cons_self ..)
       have hsT:sb∉TS cb (.slice sA L1.length sc) av1:=HR14.o.sb2
       have hlb14:∀b o,LA=some ⟨b,o,none⟩->b<w14.heap.size:=fun b o hA=>by
        have:=HLB.o b o hA;have:=HX10.o.size;have:=HEN.o.size;omega
       have hR16:RndC wq w16 cb B b0 b1 b2 (.slice sA L1.length sc) av1 (v.ownBlock.toList ++ X) sb (.slice (some ⟨g8,0,none⟩) (L1.length+1:Nat) c8) (.slice (some ⟨g15,0,none⟩) (L1.length+1:Nat) c15) (L1 ++ [sb]) (AL1 ++ [Value.slice LA ln lc]) (csArr b (k*21) ln 0 (.slice none 0 0) (.slice none 0 0) L1.length (.slice (some ⟨g9,0,none⟩) (xs ++ [(k:Int)]).length c9) h.at_.base (coefS names h.at_.ts) (ptV vb) L1.length (0:Nat)) (some ⟨g9,0,none⟩) (xs ++ [(k:Int)]):=by
        refine⟨HR14.o.ext.trans HEN6.o,⟨HB16.o,own1_ext HO8.o HE16.o fun q hq hm=>?_,own1_ext HO15.o HE16.o fun q hq hm=>?_⟩,fun x hx=>?_,HB14.o.ext HEN6.o hsT,HR14.o.sb1,fun hm=>?_,HR14.o.pa.step HEN6.o (fun x hx=>.inl ?_) HEN6.o.size fun x hx=>?_⟩
        ·cases hq
         have h1:=List.mem_singleton.1 hm;rcases HG8.o with h2|h2
         ·exact(HNS.o _ h2).2.2.1 h1
         ·have h3:g8=cb:=h1;omega
        ·cases hq
         have h1:=List.mem_singleton.1 hm;rcases HG15.o with h2|h2
         ·exact(HNA.o _ h2).2.2.1 h1
         ·have h3:g15=cb:=h1;omega
        ·refine(HTN0.o x hx).imp id fun h=>?_
         have:=HR14.o.ext.size;omega
        ·rcases HTN0.o _ hm with h1|h1
         ·exact hsT h1
         ·omega
        ·rw[HTT.o];exact HTO.o x hx
        ·rw[HTT.o];exact HTN.o x hx
       have hCX:CEx w16 w16.heap.size (sb :: (v.ownBlock.toList ++ X ++ TS cb (.slice (some ⟨g8,0,none⟩) (L1.length+1:Nat) c8) (.slice (some ⟨g15,0,none⟩) (L1.length+1:Nat) c15))) names vb h.val:=by
        refine(HCX.o.step HE14.o (fun x hx=>.inl (by rw[List.mem_singleton.1 hx];exact HST9.o)) HE14.o.size (fun x hx=>.inl hx)).step HEN6.o (fun x hx=>.inl (HTO.o x hx)) HEN6.o.size HTN.o
       have hlw:=HLW.o w14 HX10.o;have hLA:SeqIn w16 LA 1 ptC gl:=hlw.1.ext HEN6.o fun x hx b o hA hxb=>HLAT.o b o hA (hxb ▸ HTO.o x hx)
       have hM16:LoopM w0.heap.size w16 gl names:=hlw.2.1.ext HEN6.o (fun x hx=>(HT9.o x (HTO.o x hx)).1) fun g hg hm=>by
        rcases HT1.o g hm with h1|h1
        ·exact HGT.o g hg h1
        ·have:=HM.o.lt g hg;omega
       have hfin:=mid_3 (L:=L1) (AL:=AL1) (c':=lc) HKK.o (by rw[hnl];exact hR16) ⟨by simp,by simp[HLE.o]⟩ (fun i g h=>by rw[List.getElem?_append_left (List.getElem?_eq_some_iff.1 h).1];exact h) (fun i g h=>by rw[List.getElem?_append_left (List.getElem?_eq_some_iff.1 h).1];exact h) hCX (by simp) (by rw[List.getElem?_append_right (by rw[HLE.o];exact Nat.le_refl _),HLE.o,Nat.sub_self,HLN.o];rfl)
        ⟨hLA,fun b o hA=>⟨by have:=hlb14 b o hA;have:=HEN6.o.size;omega,fun hm=>by
         rcases HTN.o b hm with h1|h1
         ·exact HLAT.o b o hA h1
         ·have:=hlb14 b o hA;omega⟩⟩ (by rw[HLN.o];exact HZ.o) hM16
       rw[HLN.o] at hfin;exact hfin
    case rest=>
     obtain⟨sv2,av2,L2,AL2,CA2,cc2,PA2,pc2,vv2,A2,c2,rfl,HR2,HL2,HLP2,HAP2,HC2,HV2,HSA2,HSZ2,HST2,HM2⟩:=hcut;rename World=>wm
     clear HL10 HM10;have HFI:=hd (fd_inner HXF.o H8.o);have HCN:Hd (1+cntL bs<=cntL l):=hd (by have:=cnt_le HXK.o;simpa[cntS] using this);have HEM:Hd (Ext [] w0 wm):=hd (keep0 HE2.o HR2.o.ext fun x hx=>by have:=(HTQ.o x hx).1;omega);have HTM:=hd (HR2.o.cd.ts hBc)
     have HQ:Hd (∀W,Ext [] wm W->W.cell? ⟨sb,0,none⟩=some (.pointer (some ⟨b,k*21,none⟩))/\W.cell? ⟨sb,6,none⟩=some (.slice PA2 (xs.length+1) pc2)/\sb<W.heap.size/\W.cell? ⟨b,k*21+7,none⟩=some (.slice h.A bs.length h.cap)/\b<W.heap.size):=hd fun W hW=>by
      have h1:=HR2.o.blk.ext hW (List.not_mem_nil);have h2:W.cell? ⟨b,k*21+7,none⟩=some (.slice h.A bs.length h.cap):=(HEM.o.trans hW).held (HC0.o 7 _ rfl) (List.not_mem_nil);exact⟨h1.cell 0,by rw[show xs.length+1=(xs ++ [(k:Int)]).length by simp];exact h1.cell 6,h1.lt,h2,World.block_lt_of_cell? W _ h2⟩
     have hwm:=HR2.o.ext.size;have hbm:=HR2.o.blk.lt
     have HT0m:Hd (∀y∈sb :: (v.ownBlock.toList ++ X),w0.heap.size<=y/\y<wm.heap.size):=hd fun y hy=>by
      rcases List.mem_cons.1 hy with rfl|hy
      ·exact⟨by omega,hbm⟩
      ·refine⟨?_,by have:=HT0.o y hy;omega⟩
       rcases List.mem_append.1 hy with hy|hy
       ·have:=(own1_blk HO.o (Option.mem_toList.1 hy)).1;have:=HE0.o.size;omega
       ·exact(HX.o _ hy).1
     have HTI:Hd (∀x∈TS cb sv2 av2,x∈TS cb sv av\/w.heap.size<=x):=hd fun x hx=>by
      rcases HR2.o.ts x hx with h1|h1
      ·exact HT1.o x h1
      ·exact .inr (by omega)
     have HCALL:Hd (∀W,Ext [] wm W->Calls Tryz.prog 147 #[.pointer (some ⟨cb,0,none⟩),.slice h.A bs.length h.cap,.slice A2 (innerG gl h sb).length c2,.slice PA2 (xs.length+1) pc2] W (CAllP bs (innerV names h) L2.length cb B b0 b1 b2 sv2 av2 L2 AL2 (xs ++ [(k:Int)]) (innerG gl h sb) (sb :: (v.ownBlock.toList ++ X)) W)):=hd fun W hW=>by
      rw[show xs.length+1=(xs ++ [(k:Int)]).length by simp];refine HXI.o cb h.cap h.A A2 (innerG gl h sb).length c2 (innerG gl h sb) PA2 (xs ++ [(k:Int)]).length pc2 (xs ++ [(k:Int)]) (innerV names h) nb L2.length cb B b0 b1 b2 sv2 av2 L2 AL2 (sb :: (v.ownBlock.toList ++ X)) w0 W HXS.o.all.2.2.2.2.2.2.1 HXS.o.all.2.2.2.2.2.2.2 HFI.o.1 (HEM.o.trans hW) hB0 hBc (HSA2.o.keep hW) (HM2.o.ext hW (by simp) (by simp)) rfl HSZ2.o HFI.o.2.1 (HR2.o.pa.1.keep hW) rfl (fun h=>by simp at h) ?_ (HR2.o.cd.keep hW (by simp)) rfl (HL2.o.2.trans HL2.o.1.symm) ?_ (fun y hy=>⟨(HT0m.o y hy).1,Nat.lt_of_lt_of_le (HT0m.o y hy).2 hW.size⟩) (fun b o hA=>?_) (fun g hg hm=>?_) (fun b o hA hm=>?_)
      ·have:=HCN.o;rw[List.length_append,HXL.o];simp only[List.length_singleton,St.body] at *;omega
      ·have h1:=HL2.o.1;have h2:=HL1.o.1;have h3:storesS (.mk h bs)=(if h.k=3 then 1 else 0)+storesL bs:=by simp[storesS]
       simp only[St.body];omega
      ·have h1:=HST2.o b o hA
       exact⟨fun hm=>h1 (by
        rcases List.mem_cons.1 hm with h2|h2
        ·rw[h2];exact List.mem_cons_self ..
        ·exact List.mem_cons_of_mem _ (List.mem_append.2 (.inl h2))),fun hm=>h1 (List.mem_cons_of_mem _ (List.mem_append.2 (.inr hm)))⟩
      ·have h1:g∈gl\/g=sb:=by
        unfold innerG at hg;split at hg
        ·rcases List.mem_append.1 hg with h1|h1
         ·exact .inl h1
         ·exact .inr (List.mem_singleton.1 h1)
        ·exact .inl hg
       rcases h1 with h1|h1
       ·rcases HTI.o g hm with h2|h2
        ·exact HGT.o g h1 h2
        ·have:=HM.o.lt g h1;omega
       ·exact HR2.o.sb2 (h1 ▸ hm)
      ·exact(HR2.o.pa.2 b o hA).2 (List.mem_cons_of_mem _ (List.mem_append.2 (.inr hm)))
     go_upto_region 20 with fail
     refine rgA 15 14 (TS cb sv2 av2) [(14,sCallV wm.heap.size bs (innerV names h) L2.length cb B b0 b1 b2 sv2 av2 L2 AL2 (xs ++ [(k:Int)]) (innerG gl h sb) (sb :: (v.ownBlock.toList ++ X)))] rfl (by simp[kinds]) (fun oi h=>by cases h;rfl) ?_ ?_
     ·intro i s j hk hj x w1 w2 hR hV;have hm:=kinds_mem hk;rw[List.mem_singleton] at hm;cases hm
      exact CallV.keep hV (hR.pre hj)
     simp only[List.take_succ_cons,List.take_zero,List.drop_succ_cons,List.drop_zero]
     repeat
      refine relAt_detU rfl rfl ?_
      apply Exists.intro
      refine⟨fun wr nr hg hJ=>?_,?_⟩
      ·clear hg;clear hJ;(go_simp;try go_bits)
       first|rfl|exact⟨rfl,rfl⟩
      simp only[Act.put,List.setIfInBounds_toArray,List.set_cons_succ,List.set_cons_zero]
     refine relAt_detU rfl rfl ?_
     apply Exists.intro
     refine⟨fun wr nr hg hJ=>?_,?_⟩
     ·have hA:=hJ.pre (hg.on 14 8 (by kernel_rfl) (hg.on 8 7 (by kernel_rfl) (hg.on 7 6 (by kernel_rfl) (hg.later 6 (by kernel_rfl)))));obtain⟨q0,q6,qsl,q7,qbl⟩:=HQ.o wr hA;clear hA hg;clear hJ;(go_simp;try go_bits)
      first|rfl|exact⟨rfl,rfl⟩
     simp only[Act.put,List.setIfInBounds_toArray,List.set_cons_succ,List.set_cons_zero]
     repeat
      refine relAt_detU rfl rfl ?_
      apply Exists.intro
      refine⟨fun wr nr hg hJ=>?_,?_⟩
      ·clear hg;clear hJ;(go_simp;try go_bits)
       first|rfl|exact⟨rfl,rfl⟩
      simp only[Act.put,List.setIfInBounds_toArray,List.set_cons_succ,List.set_cons_zero]
     refine relAt_detU rfl rfl ?_
     apply Exists.intro
     refine⟨fun wr nr hg hJ=>?_,?_⟩
     ·have hA:=hJ.pre (hg.later 14 (by kernel_rfl));obtain⟨q0,q6,qsl,q7,qbl⟩:=HQ.o wr hA;clear hA hg;clear hJ;(go_simp;try go_bits)
      first|rfl|exact⟨rfl,rfl⟩
     simp only[Act.put,List.setIfInBounds_toArray,List.set_cons_succ,List.set_cons_zero]
     repeat
      refine relAt_detU rfl rfl ?_
      apply Exists.intro
      refine⟨fun wr nr hg hJ=>?_,?_⟩
      ·clear hg;clear hJ;(go_simp;try go_bits)
       first|rfl|exact⟨rfl,rfl⟩
      simp only[Act.put,List.setIfInBounds_toArray,List.set_cons_succ,List.set_cons_zero]
     refine relAt_detU rfl rfl ?_
     apply Exists.intro
     refine⟨fun wr nr hg hJ=>?_,?_⟩
     ·have hA:=hJ.pre (hg.later 14 (by kernel_rfl));obtain⟨q0,q6,qsl,q7,qbl⟩:=HQ.o wr hA;clear hA hg;clear hJ;(go_simp;try go_bits)
      first|rfl|exact⟨rfl,rfl⟩
     simp only[Act.put,List.setIfInBounds_toArray,List.set_cons_succ,List.set_cons_zero];refine relAt_callU (sCallV wm.heap.size bs (innerV names h) L2.length cb B b0 b1 b2 sv2 av2 L2 AL2 (xs ++ [(k:Int)]) (innerG gl h sb) (sb :: (v.ownBlock.toList ++ X))) rfl rfl ?_ ?_
     ·apply Exists.intro
      apply Exists.intro
      refine⟨fun wr=>?_,fun wr r hg hJ hf=>?_⟩
      ·go_simp
       first|exact⟨rfl,rfl⟩|rfl
      ·have hW:=hJ.pre hg.mine;refine(HCALL.o wr hW).mono ?_
       rintro e w' he;obtain⟨x,h1,h2,h3⟩:=CallV.of he hW.size;exact⟨x,h1,h2,hJ.app h3,by unfold RA1;rw[if_pos rfl];exact h3⟩
     intro (x:CV);simp only[Act.put,List.setIfInBounds_toArray,List.set_cons_succ,List.set_cons_zero];refine relAt_nilU (fun w20 r hr hJ hF=>?_)
     have hx:CallV wm.heap.size bs (innerV names h) L2.length cb B b0 b1 b2 sv2 av2 L2 AL2 (xs ++ [(k:Int)]) (innerG gl h sb) (sb :: (v.ownBlock.toList ++ X)) x w20:=hF 14;have HCV:=hd hx;have HE20:Hd (Ext (TS cb sv2 av2) wm w20):=hd hJ.all;clear hF hJ hx hr;dsimp only[sCallV];have hbl9:bs.length<=1000000:=HXS.o.all.2.2.2.2.2.2.1.1
     have hxl:x.L.length<=100000:=by
      have h0:=HCV.o.len.1;have h1:=HL2.o.1;have h2:=HL1.o.1;have h3:storesS (.mk h bs)=(if h.k=3 then 1 else 0)+storesL bs:=by simp[storesS]
      omega
     obtain⟨A3,c3,hsv3,-,-⟩:=own_pt HCV.o.cd.st (by omega);obtain⟨A4,c4,hv4,-,-⟩:=own_pt HCV.o.row (by rw[HCV.o.lenG];exact hbl9);rw[HCV.o.lenG] at hv4;have HB20:=hd (HR2.o.blk.ext HE20.o HR2.o.sb2);have q4:w20.cell? ⟨sb,4,none⟩=some (.slice none 0 0):=HB20.o.cell 4;have q18:w20.cell? ⟨sb,18,none⟩=some (.int .i64 0):=HB20.o.cell 18;have qf:=HB20.o.frozen;have qbl:=HB20.o.lt;have qc3:w20.cell? ⟨cb,3,none⟩=some (.slice A3 x.L.length c3):=(HCV.o.cd.blk.cell 3).trans (by rw[<-hsv3];rfl);have qcl:=HCV.o.cd.blk.lt;rw[hv4];have HV4:=hd hv4;clear hv4 hsv3;go_upto_region 22 with fail
     have HB22:=hd ((HB20.o.set_ 4 (.slice A4 bs.length c4)).set_' 18 (.int .i64 x.L.length) (csArr b (k*21) names.length (if h.k=1 then(manyS h:Int) else 0) (.slice CA2 (if h.k=2 then h.conds.length else 0) cc2) (.slice A4 bs.length c4) (if h.k=3 then(L1.length:Int) else 0) (.slice PA2 (xs ++ [(k:Int)]).length pc2) (if h.k=3 then h.at_.base else 0) (if h.k=3 then coefS names h.at_.ts else zeroC) vv2 L1.length (x.L.length:Nat)) rfl);have HE22:Hd (Ext [sb] w20 ((w20.setCell ⟨sb,4,none⟩ (.slice A4 bs.length c4)).setCell ⟨sb,18,none⟩ (.int .i64 x.L.length))):=hd (Ext.setAt (.inl (by simp)) (Ext.setAt (.inl (by simp)) (Ext.refl [sb] w20)));generalize (w20.setCell ⟨sb,4,none⟩ (.slice A4 bs.length c4)).setCell ⟨sb,18,none⟩ (.int .i64 x.L.length)=w22 at *;clear q4 q18 qf qbl qc3 qcl;have hz20:=HE20.o.size;have hz22:=HE22.o.size
     have HVT2:Hd (∀y,v.ownBlock=some y->y∉TS cb sv2 av2):=hd fun y hy hm=>by
      rcases HR2.o.ts y hm with h1|h1
      ·exact HOT.o y hy h1
      ·have:=(own1_blk HO.o hy).2;omega
     have hsbv:∀y,v.ownBlock=some y->y≠sb:=fun y hy he=>by have:=(own1_blk HO.o hy).2;have:=HR2.o.sb1;omega
     have HO22:Hd (Own1 w22 w.heap.size 117 v (gs.map ptV)):=hd (own1_ext (own1_ext (own1_ext HO.o HR2.o.ext HOT.o) HE20.o HVT2.o) HE22.o fun y hy hm=>hsbv y hy (List.mem_singleton.1 hm));obtain⟨i0,hi0,hz0,hz1,hz2⟩:=stmInfo;have HB4:=hd (Blk.new w22 117 #[ptV sb]);have hww:w.heap.size<=w22.heap.size:=by omega
     go_wp2_with (
      refine wpList_append_lies _ rfl _ _ 124 rfl w.heap.size 117 i0 _ 1 8 Tryz.underlying124 hi0 hz0 hz1 hz2 rfl (by decide) _ k (gs.map ptV) rfl ?c0 ⟨w22.heap.size,0,none⟩ 1 1 [ptV sb] rfl rfl ?c1 ?c2 (by omega) ?c3 ?c4 ?c5 _ rfl ?_
      case c0=>
       have:=own1_ext HO22.o ((Ext.refl [] w22).alloc (.cells #[ptV sb] 117)) (by simp);unfold Own1 at this;rw[List.length_map,hgl] at this;exact this
      case c1=>exact new_one _ _ _ (HB4.o.cell 0)
      case c2=>intro u hu;rw[List.mem_singleton.1 hu];rfl
      case c3=>unfold maxLen;omega
      case c4=>omega
      case c5=>exact Nat.le_trans hww (Ext.refl [] w22 |>.alloc _).size
      intro g23 c23 w23 ho23 hg23 hi23 ha23;have HX23:=hd (And.intro ho23 hg23);have HI23:Hd (v.ownBlock=some g23\/w22.heap.size<=g23):=hd (hi23.imp id fun h=>by rw[h];exact((Ext.refl [] w22).alloc _).size);have HA23:=hd ha23;clear ho23 hg23 hi23 ha23)
     go_roundw
     case rel=>
      have hE2223:Ext v.ownBlock.toList w22 w23:=((Ext.refl _ w22).alloc _).grown HX23.o.2 fun q hq=>.inl (Option.mem_toList.2 hq)
      have hE23:Ext (sb :: v.ownBlock.toList) w20 w23:=(HE22.o.mono fun y hy=>.inl (by rw[List.mem_singleton.1 hy];simp)).trans (hE2223.mono fun y hy=>.inl (List.mem_cons_of_mem _ hy));have hz23:=hE2223.size;have hsbm:=HR2.o.blk.lt;have hsq:=HR2.o.sb1;have hTlt:∀y∈TS cb x.sv x.av,B<=y/\y<w20.heap.size:=HCV.o.cd.ts hBc
      have hsbT:sb∉TS cb x.sv x.av:=fun hm=>by
       rcases HCV.o.ts sb hm with h1|h1
       ·exact HR2.o.sb2 h1
       ·omega
      have hvT:∀y,v.ownBlock=some y->y∉TS cb x.sv x.av:=fun y hy hm=>by
       rcases HCV.o.ts y hm with h1|h1
       ·exact HVT2.o y hy h1
       ·have:=(own1_blk HO.o hy).2;omega
      have hgT:g23∉TS cb x.sv x.av:=fun hm=>by
       rcases HI23.o with h1|h1
       ·exact hvT _ h1 hm
       ·have:=(hTlt _ hm).2;omega
      have hTD:∀y∈TS cb x.sv x.av,y∈TS cb (.slice sA L1.length sc) av1\/wq.heap.size<=y:=fun y hy=>by
       rcases HCV.o.ts y hy with h1|h1
       ·exact HR2.o.ts y h1
       ·right;omega
      have hT':∀y∈g23 :: (X ++ TS cb x.sv x.av),y∈v.ownBlock.toList ++ X ++ TS cb x.sv x.av\/w20.heap.size<=y:=fun y hy=>by
       rcases List.mem_cons.1 hy with rfl|hy
       ·rcases HI23.o with h1|h1
        ·left;exact List.mem_append.2 (.inl (List.mem_append.2 (.inl (Option.mem_toList.2 h1))))
        ·right;omega
       ·left
        rcases List.mem_append.1 hy with h1|h1
        ·exact List.mem_append.2 (.inl (List.mem_append.2 (.inr h1)))
        ·exact List.mem_append.2 (.inr h1)
      have hsbT':sb∉g23 :: (X ++ TS cb x.sv x.av):=fun hm=>by
       rcases List.mem_cons.1 hm with h1|hm
       ·rcases HI23.o with h2|h2
        ·exact hsbv _ h2 h1.symm
        ·omega
       ·rcases List.mem_append.1 hm with h1|h1
        ·have:=HT0.o sb (List.mem_append.2 (.inr h1));omega
        ·exact hsbT h1
      have hT0':∀y∈g23 :: (X ++ TS cb x.sv x.av),w0.heap.size<=y:=fun y hy=>by
       rcases List.mem_cons.1 hy with rfl|hy
       ·rcases HI23.o with h1|h1
        ·have:=(own1_blk HO.o h1).1;have:=HE0.o.size;omega
        ·omega
       ·rcases List.mem_append.1 hy with h1|h1
        ·exact(HX.o _ h1).1
        ·have:=(hTlt _ h1).1;omega
      have hE0:Ext [] w0 w23:=keep0 (keep0 HEM.o HE20.o fun y hy=>by have:=(HTM.o y hy).1;omega) hE23 fun y hy=>(HT0m.o y (by
       rcases List.mem_cons.1 hy with h1|h1
       ·rw[h1];exact List.mem_cons_self ..
       ·exact List.mem_cons_of_mem _ (List.mem_append.2 (.inl h1)))).1
      have hLL:x.L.length=L1.length+storesS (.mk h bs):=by
       have h0:=HCV.o.len.1;have h1:=HL2.o.1;have h3:storesS (.mk h bs)=(if h.k=3 then 1 else 0)+storesL bs:=by simp[storesS]
       omega
      have hBk:=HB22.o.ext hE2223 (fun hm=>hsbv sb (Option.mem_toList.1 hm) rfl);rw[hLL] at hBk
      have hnew:CSt w23 w23.heap.size (g23 :: (X ++ TS cb x.sv x.av)) x.L x.AL names (xs ++ [(k:Int)]) gl L1.length sb (.mk h bs):=
       cst_end HR2.o (fun j v hv=>hE0.held (HC0.o j v hv) (List.not_mem_nil)) ⟨by have:=hE0.size;omega,fun hm=>by have:=hT0' b hm;omega⟩ HC2.o HV2.o HCV.o HL2.o.1 HFI.o.2.2 HE20.o hE23 (fun y hy=>by
        rcases List.mem_cons.1 hy with h1|h1
        ·rw[h1];exact List.mem_cons_self ..
        ·exact List.mem_cons_of_mem _ (List.mem_append.2 (.inl h1))) (fun y hy=>(HT0m.o y hy).2) HV4.o hbl9 hBk hT' hsbT'
      have hCD:CdIn w23 cb B b0 b1 b2 x.sv x.av x.L x.AL:=HCV.o.cd.keep hE23 fun y hy hm=>by
       rcases List.mem_cons.1 hm with h1|h1
       ·exact hsbT (h1 ▸ hy)
       ·exact hvT y (Option.mem_toList.1 h1) hy
      have hEq0:Ext (v.ownBlock.toList ++ TS cb (.slice sA L1.length sc) av1) wq w23:=by
       refine((HR2.o.ext.mono fun y hy=>.inl (List.mem_append.2 (.inr hy))).step HE20.o fun y hy=>?_).step hE23 fun y hy=>?_
       ·exact(HR2.o.ts y hy).imp (fun h=>List.mem_append.2 (.inr h)) id
       ·rcases List.mem_cons.1 hy with h1|h1
        ·right;omega
        ·left;exact List.mem_append.2 (.inl h1)
      have hEq:Ext (v.ownBlock.toList ++ (X ++ TS cb (.slice sA L1.length sc) av1)) wq w23:=hEq0.mono fun y hy=>.inl (by
       rcases List.mem_append.1 hy with h1|h1
       ·exact List.mem_append.2 (.inl h1)
       ·exact List.mem_append.2 (.inr (List.mem_append.2 (.inr h1))))
      have hgk:∀i g,(gs ++ [sb])[i]? = some g->(i<k/\gs[i]? = some g)\/(i=k/\g=sb):=fun i g h=>by
       rcases Nat.lt_or_ge i gs.length with h1|h1
       ·rw[List.getElem?_append_left h1] at h;exact .inl ⟨by omega,h⟩
       ·have h2:=(List.getElem?_eq_some_iff.1 h).1;have h3:i=gs.length:=by simp at h2;omega
        rw[h3,List.getElem?_append_right (Nat.le_refl _),Nat.sub_self] at h;cases h
        exact .inr ⟨by omega,rfl⟩
      refine⟨k+1,.slice (some ⟨g23,0,none⟩) (k+1) c23,x.sv,x.av,x.L,x.AL,gs ++ [sb],by go_num,rfl,by omega,by simp[hgl],hd ?_,hd hCD,hd ?_,hd fun i g h=>HCV.o.sub i g (HLP2.o i g (HLP.o i g h)),hd fun i g h=>HCV.o.suba i g (HAP2.o i g (HAP.o i g h)),hd fun y hy=>?_,hd ?_,hd fun y hy=>?_,hd fun i g s hg hs=>?_⟩
      ·refine HE.o.step hEq0 fun y hy=>?_
       rcases List.mem_append.1 hy with h1|h1
       ·exact .inr (own1_blk HO.o (Option.mem_toList.1 h1)).1
       ·exact HT1.o y h1
      ·rw[storesL_take HXK.o];have h1:=HL1.o.1;have h2:=HCV.o.len;omega
      ·rcases hTD y hy with h1|h1
       ·exact HT1.o y h1
       ·right;omega
      ·have:=HX23.o.1;unfold Own1;rw[List.map_append,List.length_append,List.length_map,hgl];exact this
      ·cases hy
       exact hgT
      ·rcases hgk i g hg with⟨h1,h2⟩|⟨h1,h2⟩
       ·refine(HG.o i g s h2 hs).step hEq (fun y hy=>.inl hy) hEq.size (fun y hy=>?_) (fun i g h=>HCV.o.sub i g (HLP2.o i g h)) fun i g h=>HCV.o.suba i g (HAP2.o i g h)
        rcases hT' y hy with h3|h3
        ·rcases List.mem_append.1 h3 with h3|h3
         ·left
          rcases List.mem_append.1 h3 with h3|h3
          ·exact List.mem_append.2 (.inl h3)
          ·exact List.mem_append.2 (.inr (List.mem_append.2 (.inl h3)))
         ·exact(hTD y h3).imp (fun h=>List.mem_append.2 (.inr (List.mem_append.2 (.inr h)))) id
        ·right;omega
       ·subst h1 h2;rw[HXK.o] at hs;cases hs
        have h3:=HL1.o.1;rw[<-h3];exact hnew
     case measure=>simp[intOf];omega
  ·
   have hkn:k=n:=by omega
   subst hkn;have htk:l.take k=l:=List.take_of_length_le (by rw[HN.o];exact Nat.le_refl _);go_wp2_with fail
   go_ret
   refine⟨v,sv1,av1,L1,AL1,gs,rfl,HE.o,HC1.o,by rw[HL1.o.1,htk],by rw[HL1.o.2,htk],HLP.o,HAP.o,HT1.o,HO.o,HOT.o,by rw[hgl,HN.o],fun i g s hg hs=>?_⟩
   have h1:=HG.o i g s hg hs;exact h1.step (Ext.refl [] wq) (by simp) (Nat.le_refl _) (fun y hy=>.inl (List.mem_append.2 (.inr hy))) (fun i g h=>h) fun i g h=>h
end Go.Proofs.YtfppibmloloakaaGreatDoor
