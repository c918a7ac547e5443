import Derived.Test.YtfppibmloloakaaGreatDoorP19
namespace Go.Proofs.YtfppibmloloakaaGreatDoor
open Go.RowKit Go.Proofs.Tryz
set_option linter.all false
def tcL (buf at_ inst part:Int)(wr:Bool):List Value:=[.int .i64 buf,.int .i64 at_,.int .i64 inst,.int .i64 part,.bool wr]
theorem tcInfo:∃i,Tryz.prog.info? 202=some i/\i.zero=some (.agg (tcL 0 0 0 0 false).toArray)/\i.size=5/\i.bytes=40:=info_parts (show((Tryz.prog).info? 202).map (fun i=>(i.zero,i.size,i.bytes))=some (some (.agg (tcL 0 0 0 0 false).toArray),5,40) by kernel_rfl)
theorem tc_slice (w:World)(buf at_ inst part:Int)(wr:Bool):(Instr.buildSlice 93 1 #[(0,.agg (tcL buf at_ inst part wr).toArray)]).run Tryz.prog w=.ok (.slice (some ⟨w.heap.size,0,none⟩) 1 1) (w.alloc (.cells (tcL buf at_ inst part wr).toArray 202)):=by
 obtain⟨i0,hi0,hz0,hz1,hz2⟩:=tcInfo;refine run_buildSlice w _ _ 1 _ _ i0 _ Tryz.underlying93 hi0 hz0 (by rw[hz1];decide) (by rw[hz1];decide) ?_
 rw[hz1];have hz:((Array.range (1*5)).map (fun x=>(Value.agg (tcL 0 0 0 0 false).toArray).cells[x % (Value.agg (tcL 0 0 0 0 false).toArray).cells.size]!))=(tcL 0 0 0 0 false).toArray:=by kernel_rfl
 rw[hz];simp[Instr.fill,tcL,Value.cells]
attribute [local irreducible] relAt
set_option maxHeartbeats 8000000 in
set_option maxRecDepth 100000 in
theorem write_any (tb g eb B nt pb po:Nat)(cv vL vT:Value)(ts:List Value)(names:List ByteArray)(vs:List Int)(h:SH)(inst part:Int)(w:World)
  (hB:Blk w tb 95 #[cv,vL,vT]) (hT:w.ownsRow B 202 5 vT nt ts) (hBw:B<=w.heap.size) (htb:tb<B) (hn:nt<=100000)
  (hC:∀W,Ext vT.ownBlock.toList w W->W.cell? ⟨g,0,none⟩=some (.pointer (some ⟨pb,po,none⟩))/\W.cell? ⟨pb,po+8,none⟩=some (.int .i64 h.buf)/\(∀(j:Nat) (v:Value),(lnArr h.at_.base (coefS names h.at_.ts)).toList[j]? = some v->W.cell? ⟨g,7+j,none⟩=some v)/\EnvR W eb vs) (haff:affE names h.at_=0) (hl:vs.length=names.length) :
  Calls Tryz.prog 180 #[.pointer (some ⟨tb,0,none⟩),ptV g,.slice (some ⟨eb,0,none⟩) vs.length 8,.int .i64 inst,.int .i64 part] w fun e w'=>
   e=.returned (.tuple #[])/\∃gz cz,Ext (tb :: vT.ownBlock.toList) w w'/\Blk w' tb 95 #[cv,vL,.slice (some ⟨gz,0,none⟩) (nt+1) cz]/\w'.ownsRow B 202 5 (.slice (some ⟨gz,0,none⟩) (nt+1) cz) (nt+1) (ts ++ tcL h.buf (evA (names.zip vs) h.at_) inst part true)/\(vT.ownBlock=some gz\/w.heap.size<=gz):=by
 have HB:=hd hB;have HT:=hd hT;have HCC:=hd hC;have HL:=hd hl;have HTB:Hd (tb∉vT.ownBlock.toList):=hd fun hm=>by have:=own_base hT tb (Option.mem_toList.1 hm);omega
 have HLT:Hd (∀q,vT.ownBlock=some q->B<=q/\q<w.heap.size):=hd fun q hq=>by
  refine⟨own_base hT q hq,?_⟩
  obtain⟨-,h2⟩:=hT;rcases h2 with⟨rfl,-⟩|⟨b,cap,cur,rfl,hb,hg,-⟩
  ·cases hq
  ·cases hq;exact(Array.getElem?_eq_some_iff.1 hg).1
 obtain⟨i0,hi0,hz0,hz1,hz2⟩:=tcInfo;have HAFF:=hd (fun W (hW:Ext vT.ownBlock.toList w W)=>aff_any g 7 names h.at_ eb vs W (hC W hW).2.2.1 (hC W hW).2.2.2 (AffOk.of haff) hl);have HGL:Hd (∀W,Ext vT.ownBlock.toList w W->g<W.heap.size/\pb<W.heap.size):=hd fun W hW=>⟨World.block_lt_of_cell? W _ (hC W hW).1,World.block_lt_of_cell? W _ (hC W hW).2.1⟩
 generalize evA (names.zip vs) h.at_=av at *;generalize h.buf=buf at *;generalize hnews:tcL buf av inst part true=news at *;have HNW:=hd hnews;have hxl:ts.length=nt*5:=hT.1;have HYL:=hd hxl;clear hnews hxl hB hT hC hl haff;generalize hd':vs.length=d at *;clear hd';unfold ptV;go_enter Tryz.func180,Tryz.ntmps180
 go_wp2_with fail
 refine rgW 23 vT.ownBlock.toList (fun p y=>vT.ownBlock=some p.block/\∃q,p.off=nt*5+q/\news[q]? = some y) [(16,sFix (.int .i64 av)),(21,sCells w.heap.size news),(22,sRowA B 202 5 nt (ts ++ news) (fun g=>vT.ownBlock=some g\/w.heap.size<=g))] ?_ ?_
 ·refine Stays.cons sFix.stays (Stays.cons (sCells.stays fun b j u y hb hu hf=>?_) (Stays.cons (sRowA.stays fun g i x y _ hx hf=>?_) Stays.nil))
  ·have:=(HLT.o b hf.1).2;omega
  ·obtain⟨-,q,hq,hy⟩:=hf;simp only at hq;subst hq;rw[List.getElem?_append_right (by rw[HYL.o];omega),HYL.o,Nat.add_sub_cancel_left,hy] at hx;exact Option.some.inj hx
 simp only[List.take_succ_cons,List.take_zero,List.drop_succ_cons,List.drop_zero]
 repeat
  refine relAt_det rfl rfl ?_
  apply Exists.intro
  refine⟨fun wr nr hJ=>?_,?_⟩
  ·have qb:=(HB.o.ext hJ.1 HTB.o).cell;have qbl:=(HB.o.ext hJ.1 HTB.o).lt;have q0:=(HCC.o wr hJ.1).1;have q8:=(HCC.o wr hJ.1).2.1;have q0l:=(HGL.o wr hJ.1).1;have q8l:=(HGL.o wr hJ.1).2;clear hJ;(go_simp;try go_bits)
   first|rfl|exact⟨rfl,rfl⟩
  simp only[Act.put,List.setIfInBounds_toArray,List.set_cons_succ,List.set_cons_zero]
 refine rel_extL (sFix (.int .i64 av)) rfl rfl ?_ ?_
 ·apply Exists.intro
  apply Exists.intro
  refine⟨fun wr=>?_,fun wr nr hJ hf=>?_⟩
  ·go_simp
   first|exact⟨rfl,rfl⟩|rfl
  ·refine(HAFF.o wr hJ.1).mono ?_
   rintro e w' ⟨rfl,hE⟩;exact⟨(),rfl,trivial,hE⟩
 rintro⟨⟩;simp only[Act.put,List.setIfInBounds_toArray,List.set_cons_succ,List.set_cons_zero]
 repeat
  refine relAt_det rfl rfl ?_
  apply Exists.intro
  refine⟨fun wr nr hJ=>?_,?_⟩
  ·have qb:=(HB.o.ext hJ.1 HTB.o).cell;have qbl:=(HB.o.ext hJ.1 HTB.o).lt;have q0:=(HCC.o wr hJ.1).1;have q8:=(HCC.o wr hJ.1).2.1;have q0l:=(HGL.o wr hJ.1).1;have q8l:=(HGL.o wr hJ.1).2;clear hJ;(go_simp;try go_bits)
   first|rfl|exact⟨rfl,rfl⟩
  simp only[Act.put,List.setIfInBounds_toArray,List.set_cons_succ,List.set_cons_zero]
 refine rel_newL (sCells w.heap.size news) rfl rfl (fun wr nr hJ hf=>?_) ?_
 ·refine⟨wr.heap.size,.cells (tcL buf av inst part true).toArray 202,?_,Ext.size hJ.1,fun j u hu=>?_⟩
  ·refine exec_buildSlice rfl _ _ _ _ (.agg (tcL buf av inst part true).toArray) ?_ ?_
   ·rfl
   ·exact tc_slice wr buf av inst part true
  ·rw[(Blk.new wr 202 (tcL buf av inst part true).toArray).cell j];rw[<-HNW.o] at hu;rw[<-hu];simp
 intro (b8:Nat);simp only[Act.put,List.setIfInBounds_toArray,List.set_cons_succ,List.set_cons_zero];refine rel_appL B b8 93 202 i0 _ 5 40 vT nt 1 ts news (fun g=>vT.ownBlock=some g\/w.heap.size<=g) _ _ rfl rfl rfl (by kernel_rfl) hi0 hz0 hz1 hz2 rfl (by decide) rfl rfl (by rw[<-HNW.o];rfl) (fun u hu=>?_) (fun w' n' hJ hf=>?_) hBw (fun g hg hb=>.inl (Option.mem_toList.2 hg)) (fun g hg=>hg.imp And.left id) (fun g q u hg hb hu=>⟨hg,q,rfl,hu⟩) ?_ ?_ ?_
 ·rw[<-HNW.o] at hu;unfold tcL at hu;simp only[List.mem_cons,List.not_mem_nil,or_false] at hu;rcases hu with rfl|rfl|rfl|rfl|rfl<;>rfl
 ·have h8:(sCells w.heap.size news).V b8 w':=get_after hf 21 (by kernel_rfl)
  exact⟨own_rw HT.o hJ.2 fun g i x y hg hx hy=>by
   obtain⟨-,q,hq,-⟩:=hy;have h1:=(List.getElem?_eq_some_iff.1 hx).1;simp only at hq;rw[HYL.o] at h1;omega,h8.2⟩
 ·unfold maxLen;omega
 ·omega
 intro u9;simp only[Act.put,List.setIfInBounds_toArray,List.set_cons_succ,List.set_cons_zero];refine relAt_nil (fun wz hJ hF=>?_)
 obtain⟨gz,cz⟩:=u9;have hz:(sRowA B 202 5 nt (ts ++ news) (fun g=>vT.ownBlock=some g\/w.heap.size<=g)).V (gz,cz) wz:=hF 22;have HOZ:Hd (wz.ownsRow B 202 5 (.slice (some ⟨gz,0,none⟩) (nt+1) cz) (nt+1) (ts ++ news)):=hd hz.1;have HGO:=hd hz.2;have HEZ:=hd hJ.1;clear hF hJ hz;dsimp only[sRowA];have HBZ:=hd (HB.o.ext HEZ.o HTB.o);have qb:=HBZ.o.cell;have qf:=HBZ.o.frozen;have qbl:=HBZ.o.lt;have HBF:=hd (HBZ.o.set_' 2 (.slice (some ⟨gz,0,none⟩) (nt+1) cz) #[cv,vL,.slice (some ⟨gz,0,none⟩) (nt+1) cz] rfl);have HEF:=hd (Ext.setAt (b:=tb) (i:=2) (u:=.slice (some ⟨gz,0,none⟩) (nt+1) cz) (.inl (by simp)) (Ext.refl [tb] wz))
 have HGT:Hd (gz≠tb):=hd fun h=>by
  have:=own_base HOZ.o gz rfl;omega
 go_wp2_with fail
 have HEE:Hd (Ext (tb :: vT.ownBlock.toList) w (wz.setCell ⟨tb,2,none⟩ (.slice (some ⟨gz,0,none⟩) (nt+1) cz))):=hd ((HEZ.o.mono fun x hx=>.inl (List.mem_cons_of_mem _ hx)).step HEF.o fun x hx=>.inl (by rw[List.mem_singleton.1 hx];exact List.mem_cons_self ..));have HOF:=hd (own_ext HOZ.o HEF.o (fun k hk=>by cases hk;rw[List.mem_singleton];exact HGT.o));exact bodyPost_end (results_none rfl _ _ _) rfl ⟨rfl,HEE.o,gz,cz,HBF.o,HOF.o,HGO.o⟩
end Go.Proofs.YtfppibmloloakaaGreatDoor
