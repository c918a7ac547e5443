import Derived.Test.YtfppibmloloakaaGreatDoorK27
namespace Go.Proofs.YtfppibmloloakaaGreatDoor
open Go.RowKit Go.Proofs.Tryz
set_option linter.all false
set_option maxHeartbeats 64000000
def tcL (buf at_ inst part:Int)(wr:Bool):List Value:=[.int .i64 buf,.int .i64 at_,.int .i64 inst,.int .i64 part,.bool wr]
theorem Abi:∃i,prog.info? 202=some i/\i.zero=some (.agg (tcL 0 0 0 0 false).toArray)/\i.size=5/\i.bytes=40:=info_parts (show((prog).info? 202).map (fun i=>(i.zero,i.size,i.bytes))=some (some (.agg (tcL 0 0 0 0 false).toArray),5,40) by kernel_rfl)
theorem Ze (w:World)(buf at_ inst part:Int)(wr:Bool):(Instr.buildSlice 93 1 #[(0,.agg (tcL buf at_ inst part wr).toArray)]).run prog w=.ok (.slice (some w.heap.size) 1 1) (w.alloc (.cells (tcL buf at_ inst part wr).toArray 202)):=by
 obtain⟨i0,a2,a6,a1,a7⟩:=Abi;refine run_buildSlice w _ _ 1 _ _ i0 _ underlying93 a2 a6 (by rw[a1];decide) (by rw[a1];decide) ?_
 rw[a1];have hz:((Array.range (1*5)).map (fun x=>(Value.agg (tcL 0 0 0 0 false).toArray).cells[x % (Value.agg (tcL 0 0 0 0 false).toArray).cells.size]!))=(tcL 0 0 0 0 false).toArray:=by kernel_rfl
 rw[hz];simp[Instr.fill,tcL,Value.cells]
attribute [local irreducible] Bj
set_option maxRecDepth 100000 in
theorem Ael (tb g eb B nt pb po:Nat)(cv vL vT:Value)(ts:List Value)(names:List ByteArray)(vs:List Int)(h:SH)(inst part:Int)(w:World)
  (hB:Blk w tb 95 #[cv,vL,vT]) (hT:w.ownsRow B 202 5 vT nt ts) (hBw:B<=w.heap.size) (htb:tb<B) (hn:nt<=100000)
  (hC:∀W,Ext vT.ownBlock.toList w W->W.cell? ⟨g,0,none⟩=some (.pointer (some ⟨pb,po,none⟩))/\W.cell? ⟨pb,po+8,none⟩=some (.int .i64 h.buf)/\(∀(j:Nat) (v:Value),(Bl h.at_.base (Bq names h.at_.ts)).toList[j]? = some v->W.cell? ⟨g,7+j,none⟩=some v)/\Bn W eb vs) (haff:Cn names h.at_=0) (hl:vs.length=names.length) :
  Calls prog 180 #[.pointer (some tb),ptV g,.slice (some eb) vs.length 8,inst,part] w fun e w'=>
   e=.returned (.tuple #[])/\∃gz cz,Ext (tb :: vT.ownBlock.toList) w w'/\Blk w' tb 95 #[cv,vL,.slice (some ⟨gz,0,none⟩) (nt+1) cz]/\w'.ownsRow B 202 5 (.slice (some ⟨gz,0,none⟩) (nt+1) cz) (nt+1) (ts ++ tcL h.buf (evA (names.zip vs) h.at_) inst part true)/\(vT.ownBlock=some gz\/w.heap.size<=gz):=by
 have HB:=hd hB;have HT:=hd hT;have a6:=hd hC;have HL:=hd hl;have a2:Hd (tb∉vT.ownBlock.toList):=hd fun hm=>by have:=Ad hT tb (jC.1 hm);omega
 have ai:Hd (∀q,vT.ownBlock=some q->B<=q/\q<w.heap.size):=hd fun q hq=>by
  refine⟨Ad hT q hq,?_⟩
  obtain⟨-,h2⟩:=hT;rcases h2 with⟨rfl,-⟩|⟨b,cap,az,rfl,hb,hg,-⟩
  ·cases hq
  ·cases hq;exact(Array.getElem?_eq_some_iff.1 hg).1
 obtain⟨i0,aq,au,aw,ax⟩:=Abi;have aa:=hd (fun W (hW:Ext vT.ownBlock.toList w W)=>Ku g 7 names h.at_ eb vs W (hC W hW).2.2.1 (hC W hW).2.2.2 (Ld.of haff) hl);have a7:Hd (∀W,Ext vT.ownBlock.toList w W->g<W.heap.size/\pb<W.heap.size):=hd fun W hW=>⟨jB W _ (hC W hW).1,jB W _ (hC W hW).2.1⟩
 generalize evA (names.zip vs) h.at_=av at *;generalize h.buf=buf at *;generalize a1:tcL buf av inst part true=news at *;have ab:=hd a1;have ad:ts.length=nt*5:=hT.1;have ac:=hd ad;clear a1 ad hB hT hC hl haff;generalize ay:vs.length=d at *;clear ay;unfold ptV;go_enter func180,ntmps180
 go_wp2_with fail
 refine rgW 23 vT.ownBlock.toList (fun p y=>vT.ownBlock=some p.block/\∃q,p.off=nt*5+q/\news[q]? = some y) [(16,Cx (.int .i64 av)),(21,Aq w.heap.size news),(22,Bo B 202 5 nt (ts ++ news) (fun g=>vT.ownBlock=some g\/w.heap.size<=g))] ?_ ?_
 ·refine Am.cons Cx.stays (Am.cons (Aq.stays fun b j u y hb hu hf=>?_) (Am.cons (Bo.stays fun g i x y _ hx hf=>?_) Am.nil))
  ·have:=(ai.o b hf.1).2;omega
  ·obtain⟨-,q,hq,hy⟩:=hf;simp only at hq;subst hq;rw[jM (by rw[ac.o];omega),ac.o,Nat.add_sub_cancel_left,hy] at hx;exact Option.some.inj hx
 simp only[TK]
 repeat(refine dE (fun wr nr hJ=>by(have qb:=(HB.o.ext hJ.1 a2.o).cell;have ae:=(HB.o.ext hJ.1 a2.o).lt;have q0:=(a6.o wr hJ.1).1;have q8:=(a6.o wr hJ.1).2.1;have aj:=(a7.o wr hJ.1).1;have ak:=(a7.o wr hJ.1).2);clear hJ;exact CL) ?_;simp only[PT])
 refine Lu (Cx (.int .i64 av)) rfl rfl ?_ ?_
 ·refine EC fun wr nr hJ hf=>?_
  refine(aa.o wr hJ.1).mono ?_
  rintro e w' ⟨rfl,hE⟩;exact⟨(),rfl,trivial,hE⟩
 rintro⟨⟩;simp only[PT]
 repeat(refine dE (fun wr nr hJ=>by(have qb:=(HB.o.ext hJ.1 a2.o).cell;have ae:=(HB.o.ext hJ.1 a2.o).lt;have q0:=(a6.o wr hJ.1).1;have q8:=(a6.o wr hJ.1).2.1;have aj:=(a7.o wr hJ.1).1;have ak:=(a7.o wr hJ.1).2);clear hJ;exact CL) ?_;simp only[PT])
 refine Eg (Aq w.heap.size news) rfl rfl (fun wr nr hJ hf=>?_) ?_
 ·refine⟨wr.heap.size,.cells (tcL buf av inst part true).toArray 202,?_,Ext.size hJ.1,fun j u hu=>?_⟩
  ·refine As rfl _ _ _ _ (.agg (tcL buf av inst part true).toArray) ?_ ?_
   ·rfl
   ·exact Ze wr buf av inst part true
  ·rw[(jK wr 202 (tcL buf av inst part true).toArray).cell j];rw[<-ab.o] at hu;rw[<-hu];simp
 intro (b8:Nat);simp only[PT];refine Lv B b8 93 202 i0 _ 5 40 vT nt 1 ts news (fun g=>vT.ownBlock=some g\/w.heap.size<=g) _ _ rfl rfl rfl (by kernel_rfl) aq au aw ax rfl (by decide) rfl rfl (by rw[<-ab.o];rfl) (fun u hu=>?_) (fun w' n' hJ hf=>?_) hBw (fun g hg hb=>.inl (jC.2 hg)) (fun g hg=>hg.imp And.left id) (fun g q u hg hb hu=>⟨hg,q,rfl,hu⟩) ?_ ?_ ?_
 ·rw[<-ab.o] at hu;unfold tcL at hu;simp only[jE,jH,or_false] at hu;rcases hu with rfl|rfl|rfl|rfl|rfl<;>rfl
 ·have h8:(Aq w.heap.size news).V b8 w':=Bd hf 21 (by kernel_rfl)
  exact⟨Ho HT.o hJ.2 fun g i x y hg hx hy=>by
   obtain⟨-,q,hq,-⟩:=hy;have h1:=(ils hx).1;simp only at hq;rw[ac.o] at h1;omega,h8.2⟩
 ·unfold maxLen;omega
 ·omega
 intro u9;simp only[PT];refine Aj (fun wz hJ hF=>?_)
 obtain⟨gz,cz⟩:=u9;have hz:(Bo B 202 5 nt (ts ++ news) (fun g=>vT.ownBlock=some g\/w.heap.size<=g)).V (gz,cz) wz:=hF 22;have af:Hd (wz.ownsRow B 202 5 (.slice (some gz) (nt+1) cz) (nt+1) (ts ++ news)):=hd hz.1;have al:=hd hz.2;have ag:=hd hJ.1;clear hF hJ hz;dsimp only[Bo];have a8:=hd (HB.o.ext ag.o a2.o);have qb:=a8.o.cell;have qf:=a8.o.frozen;have ae:=a8.o.lt;have am:=hd (a8.o.set_' 2 (.slice (some gz) (nt+1) cz) #[cv,vL,.slice (some gz) (nt+1) cz] rfl);have ah:=hd (jL (b:=tb) (i:=2) (u:=.slice (some gz) (nt+1) cz) (.inl (by simp)) (jF [tb] wz))
 have an:Hd (gz≠tb):=hd fun h=>by
  have:=Ad af.o gz rfl;omega
 go_wp2_with fail
 have ao:Hd (Ext (tb :: vT.ownBlock.toList) w (wz.setCell ⟨tb,2,none⟩ (.slice (some gz) (nt+1) cz))):=hd ((ag.o.mono fun x hx=>.inl (jI _ hx)).step ah.o fun x hx=>.inl (by rw[jA.1 hx];exact jO ..));have ap:=hd (Ah af.o ah.o (fun k hk=>by cases hk;rw[jA];exact an.o));exact bodyPost_end (results_none rfl _ _ _) rfl ⟨rfl,ao.o,gz,cz,am.o,ap.o,al.o⟩
end Go.Proofs.YtfppibmloloakaaGreatDoor
