import Derived.Test.YtfppibmloloakaaGreatDoorP25
import Derived.Defers
import Derived.Recover
namespace Go.Proofs.YtfppibmloloakaaGreatDoor
open Go.RowKit Go.Proofs.Tryz
set_option linter.all false
section
theorem BegR.copy {H mb:Nat}{w:World}{wv sv:Value}{R:List (Nat×Nat)}(h:BegR H mb 2 w wv sv R)(hm:mb<H):∃wb sb cw cs b0 c0 b1 c1,CopyM w mb wb sb cw cs b0 c0 b1 c1 0/\H<=b1/\H<=c1/\H<=wb/\H<=sb/\H<=b0/\H<=c0:=by
 obtain⟨⟨b0,c0⟩,⟨b1,c1⟩,rfl⟩:∃x y,R=[x,y]:=by
  have:=h.len
  match R,this with
  | [x,y],_=>exact⟨x,y,rfl⟩
 obtain⟨wA,cw,rfl,-,hw⟩:=own_form h.wr;obtain⟨sA,cs,rfl,-,hs⟩:=own_form h.sr;obtain⟨wb,rfl,hwb,hwl⟩:=hw (by omega);obtain⟨sb,rfl,hsb,hsl⟩:=hs (by omega);obtain⟨a1,a2,a3,a4⟩:=h.row 0 _ rfl;obtain⟨d1,d2,d3,d4⟩:=h.row 1 _ rfl;obtain⟨e1,e2⟩:=h.apart _ _ rfl rfl;obtain⟨CW,hCW⟩:=own_blk h.wr rfl;obtain⟨CS,hCS⟩:=own_blk h.sr rfl;have w0:=cell_row h.wr (g:=wb) rfl (i:=0) rfl;have w1:=cell_row h.wr (g:=wb) rfl (i:=1) rfl;have s0:=cell_row h.sr (g:=sb) rfl (i:=0) rfl;have s1:=cell_row h.sr (g:=sb) rfl (i:=1) rfl;refine⟨wb,sb,cw,cs,b0,c0,b1,c1,⟨⟨h.blk,fun i x hx=>?_,by simp,fun x hx=>?_⟩,a3,a4,d3,d4,⟨e1,e2,a3.apart d4 (by decide),a4.apart d3 (by decide),h.blk.apart d3 (by decide),h.blk.apart d4 (by decide),hCW.apart d3 (by decide),hCW.apart d4 (by decide),hCS.apart d3 (by decide),hCS.apart d4 (by decide)⟩⟩,d1,d2,hwb,hsb,a1,a2⟩
 ·have hi:=(List.getElem?_eq_some_iff.1 hx).1;simp only[List.length_cons,List.length_nil] at hi;have:i=0\/i=1:=by omega
  rcases this with rfl|rfl
  ·cases hx;exact⟨w0,s0⟩
  ·cases hx;exact⟨w1,s1⟩
 ·simp only[List.mem_cons,List.not_mem_nil,or_false] at hx;rcases hx with rfl|rfl<;>simp
theorem run1_idle (a b c:Addr)(w:World):CallsD Tryz.prog 95 #[.pointer (some a),.pointer (some b),.pointer (some c)] .returning w fun e u' w'=>e=.returned (.tuple #[])/\u'=.returning/\w'=w:=by
 refine callsD_of_wpS Tryz.func95 rfl fun c₀ cs hu=>?_
 apply wpS_seq
 apply wpS_region
 simp[wpOpsS,go_sem,recoverD,hu,Tryz.ntmps95,Exit.thenS];refine wpS_of_wp ?_
 go_wp2_with fail
 cases c₀
 simp_all [bodyPostS,results,Tryz.results95]
theorem setCell_id {w:World}{b i:Nat}{t:TypeId}{C:Array Value}{v:Value}(h:Blk w b t C)(hC:C[i]? = some v):w.setCell ⟨b,i,none⟩ v=w:=by
 have hs:C.setIfInBounds i v=C:=by
  apply Array.ext_getElem?
  intro k;rw[Array.getElem?_setIfInBounds];split
  ·rename_i h1
   subst h1;split
   ·exact hC.symm
   ·rename_i h2
    rw[Array.getElem?_eq_none (by omega)] at hC;cases hC
  ·rfl
 unfold World.setCell
 have hm:(w.heap.modify b fun
   | .cells c elem frozen=>.cells (if(⟨b,i,none⟩:Addr).spot.isSome then c else c.setIfInBounds i v) elem frozen
   | o=>o)=w.heap:=by
  apply Array.ext_getElem?
  intro k;rw[Array.getElem?_modify];split
  ·rename_i h1
   subst h1;unfold Blk at h;rw[h];simp[hs]
  ·rfl
 exact congrArg (fun x=>{w with heap:=x }) hm
theorem results_run {fn:Func}{p q r:Tmp}(h:fn.results=#[.cell p 102,.cell q 103,.cell r 46])(tmps:Array Value)(w:World)(a b c:Nat)(x y z:Value)
  (hp:tmps.getD p undef=.pointer (some ⟨a,0,none⟩)) (hq:tmps.getD q undef=.pointer (some ⟨b,0,none⟩)) (hr:tmps.getD r undef=.pointer (some ⟨c,0,none⟩))
  (ha:Blk w a 102 #[x]) (hb:Blk w b 103 #[y]) (hc:Blk w c 46 #[z]):(results fn tmps).run Tryz.prog w=.ok (.tuple #[x,y,z]) w:=by
 have hp':tmps[p]?.getD undef=.pointer (some ⟨a,0,none⟩):=by simpa using hp
 have hq':tmps[q]?.getD undef=.pointer (some ⟨b,0,none⟩):=by simpa using hq
 have hr':tmps[r]?.getD undef=.pointer (some ⟨c,0,none⟩):=by simpa using hr
 have h1:=ha.cell 0;have h2:=hb.cell 0;have h3:=hc.cell 0;have u1:=run_underlying (P:=Tryz.prog) Tryz.underlying102;have u2:=run_underlying (P:=Tryz.prog) Tryz.underlying103;have u3:=run_underlying (P:=Tryz.prog) Tryz.underlying46;simp[results,h,hp',hq',hr',asAddr,loadVar,isAgg,Sem.run_bind,u1,u2,u3,go_sem,h1,h2,h3]
attribute [local irreducible] relAt
set_option maxHeartbeats 16000000 in
set_option maxRecDepth 100000 in
theorem run_copy (bs:List Bf)(lB:Option Addr)(lc:Nat)(h hs:SH)(ab ib vb:Nat)(w:World)(hb2:bs.length=2)(hP:PgIn w ⟨some ⟨ab,0,none⟩,2,bs,lB,lc,[.mk h [.mk hs []]]⟩)(hck:checkE bs [.mk h [.mk hs []]]=0)
  (hF:CopyF h) (hS:CopyS hs) (hB:BegI w ab ib vb) :
  Calls Tryz.prog 42 #[.agg #[.slice (some ⟨ab,0,none⟩) 2 2,.slice lB 1 lc],.slice (some ⟨ib,0,none⟩) 2 2] w fun e w'=>∃(mb wb sb cw cs b0 c0 b1 c1:Nat),e=.returned (.tuple #[.slice (some ⟨wb,0,none⟩) 2 cw,.slice (some ⟨sb,0,none⟩) 2 cs,.int .i64 0])/\Ext [] w w'/\CopyM w' mb wb sb cw cs b0 c0 b1 c1 2:=by
 have hmf:∀(fn:Fn) (first cap:Array Value) (w:World),(Instr.makeFunc fn first cap).run Tryz.prog w=.ok (.func fn first cap) w:=fun _ _ _ _=>rfl
 have HCK:=hd (fun W (hW:Ext [] w W)=>checked_any _ W (hP.keep hW));have HBI:=hd hB;have HFF:=hd hF;have HSS:=hd hS;have HC0:=hd hck;have HB2:=hd hb2;have hab:=hB.bufs.lt;have hib:=hB.ins.lt;have hvb:=hB.wds.lt;unfold CheckedP pgV at HCK;dsimp only at HCK;rw[HB2.o,HC0.o] at HCK;simp only[List.length_cons,List.length_nil,Nat.zero_add] at HCK;clear hP hck hF hS hB hb2;go_enter_defers Tryz.func42,Tryz.ntmps42
 go_upto_region 1 with fail
 generalize hW:World.alloc (World.alloc (World.alloc (World.alloc w _) _) _) _=w1;generalize hs0:w.heap.size=s at *;have HE1:Hd (Ext [] w w1):=hd (by rw[<-hW];exact((((Ext.refl [] w).alloc _).alloc _).alloc _).alloc _);have HP1:Hd (Blk w1 s 29 #[.slice (some ⟨ab,0,none⟩) 2 2,.slice lB 1 lc]):=hd (by rw[<-hW];exact(((Blk.new' w _ _ s hs0.symm).alloc _).alloc _).alloc _);have HA1:Hd (Blk w1 (s+1) 102 #[.slice none 0 0]):=hd (by rw[<-hW];exact((Blk.new' _ _ _ (s+1) (by rw[alloc_size,hs0])).alloc _).alloc _);have HC1:Hd (Blk w1 (s+1+1) 103 #[.slice none 0 0]):=hd (by rw[<-hW];exact(Blk.new' _ _ _ (s+1+1) (by rw[alloc_size,alloc_size,hs0])).alloc _);have HD1:Hd (Blk w1 (s+1+1+1) 46 #[.int .i64 0]):=hd (by rw[<-hW];exact Blk.new' _ _ _ (s+1+1+1) (by rw[alloc_size,alloc_size,alloc_size,hs0]));have hw1:w1.heap.size=s+1+1+1+1:=by rw[<-hW,alloc_size,alloc_size,alloc_size,alloc_size,hs0]
 clear hW;generalize hra:s+1=ra at *;generalize hrb:ra+1=rb at *;generalize hrd:rb+1=rd at *;have qp:=HP1.o.cell;have qpl:=HP1.o.lt;go_wp2_with fail
 refine(HCK.o w1 HE1.o).mono ?_
 rintro e w2 ⟨hE,⟨h1,-⟩|⟨-,n,cb,gs,gA,gc,L,AL,sA,sc,av,rfl,hcb,hn,hC⟩⟩
 ·exact absurd rfl h1
 have HE2:=hd (HE1.o.trans hE);have HP2:=hd (HP1.o.ext hE (by simp));have HA2:=hd (HA1.o.ext hE (by simp));have HC2:=hd (HC1.o.ext hE (by simp));have HD2:=hd (HD1.o.ext hE (by simp));have HCO:=hd hC;have hw2:=hE.size;clear hE hC qp qpl HCK;have HID2:Hd (w2.setCell ⟨rd,0,none⟩ (.int .i64 0)=w2):=hd (setCell_id HD2.o rfl);have qd:=HD2.o.cell;have qdf:=HD2.o.frozen;have qdl:=HD2.o.lt;go_upto_region 2 with fail
 rw[HID2.o];have qp:=HP2.o.cell;have qpl:=HP2.o.lt;have HBG:=hd (begun_copy ab ib vb w2 (HBI.o.ext HE2.o (by simp)));go_wp2_with fail
 refine HBG.o.mono ?_
 rintro e w3 ⟨mb,H,wv,sv,R,rfl,hE,hmb,hmH,hR⟩;have HE3:=hd (HE2.o.trans hE);have HA3:=hd (HA2.o.ext hE (by simp));have HC3:=hd (HC2.o.ext hE (by simp));have HD3:=hd (HD2.o.ext hE (by simp));have HCO3:=hd (HCO.o.step hE (by simp) (Nat.le_refl n));have HR3:=hd hR;have hw3:=hE.size;clear hE hR qp qpl qd qdf qdl HID2;have HID3:Hd (w3.setCell ⟨rd,0,none⟩ (.int .i64 0)=w3):=hd (setCell_id HD3.o rfl);have qd:=HD3.o.cell;have qdf:=HD3.o.frozen;have qdl:=HD3.o.lt;go_upto_region 5 with fail
 rw[HID3.o];go_upto_region 8 with fail
 clear qd qdf qdl;have HQ:Hd (∀W,Ext [] w3 W->W.cell? ⟨cb,2,none⟩=some (.slice gA 1 gc)/\cb<W.heap.size):=hd fun W hW=>⟨(HCO3.o.blk.ext hW (by simp)).cell 2,(HCO3.o.blk.ext hW (by simp)).lt⟩
 refine rgH 6 [(5,sNewE w3.heap.size)] ?_ ?_
 ·refine Stays.cons sNewE.stays Stays.nil
 simp only[List.take_succ_cons,List.take_zero,List.drop_succ_cons,List.drop_zero]
 repeat
  refine relAt_det rfl rfl ?_
  apply Exists.intro
  refine⟨fun wr nr hJ=>?_,?_⟩
  ·obtain⟨q2,ql⟩:=HQ.o wr hJ.1;clear hJ;(go_simp;try go_bits)
   first|rfl|exact⟨rfl,rfl⟩
  simp only[Act.put,List.setIfInBounds_toArray,List.set_cons_succ,List.set_cons_zero]
 refine rel_new (sNewE w3.heap.size) rfl rfl (fun wr nr hJ hf=>?_) ?_
 ·refine⟨wr.heap.size,.cells (Array.replicate 8 (.int .i64 0)) 3,?_,hJ.1.size,EnvR.made wr⟩
  have hmk:=make_env wr;(go_simp;try go_bits)
  rfl
 intro (eb:Nat);simp only[Act.put,List.setIfInBounds_toArray,List.set_cons_succ,List.set_cons_zero]
 repeat
  refine relAt_det rfl rfl ?_
  apply Exists.intro
  refine⟨fun wr nr hJ=>?_,?_⟩
  ·skip
   clear hJ;(go_simp;try go_bits)
   first|rfl|exact⟨rfl,rfl⟩
  simp only[Act.put,List.setIfInBounds_toArray,List.set_cons_succ,List.set_cons_zero]
 refine relAt_nil (fun w4 hJ hF=>?_)
 have HV4:Hd (w3.heap.size<=eb/\EnvR w4 eb []):=hd (hF 5);have HE4:=hd hJ.1;clear hF hJ;dsimp only[sNewE];have heb:=HV4.o.1;obtain⟨wb,sb,cw,cs,b0,c0,b1,c1,hCM,l1,l2,l3,l4,l5,l6⟩:=HR3.o.copy hmH;have HCM4:=hd (hCM.ext HE4.o (by simp))
 have HFO:=hd (FormOk.of (show formedE bs [.mk h [.mk hs []]]=0 by
  have h1:=HC0.o;unfold checkE at h1;split at h1
  ·assumption
  ·exact absurd h1 (by assumption)))
 have HLA:=hd ((⟨HCO3.o.row.1,fun b o hA=>(HCO3.o.row.2 b o hA).1,HCO3.o.len,fun i g s hg hs=>by have:=HCO3.o.cst i g s hg hs;rw[Nat.zero_add];exact this,HFO.o.fd⟩:LstAt w3 n bs.length L AL [] [] [] 0 gA gs [.mk h [.mk hs []]]).step HE4.o (by simp));have bl:=hCM.mem.blk.lt;have hbw:=World.block_lt_of_cell? w3 _ (hCM.mem.row 0 _ rfl).1;have hbs:=World.block_lt_of_cell? w3 _ (hCM.mem.row 0 _ rfl).2;have k1:=hCM.w0.lt;have k2:=hCM.s0.lt;have k3:=hCM.w1.lt;have k4:=hCM.s1.lt;simp only at hbw hbs;have HRN:=hd (crun_for mb wb sb cw cs b0 c0 b1 c1 eb n bs.length h hs gA gc gs 0 [] [] L AL w4 HCM4.o HFF.o HSS.o HLA.o HV4.o.2 (by omega) ⟨by omega,by omega⟩ ⟨by omega,by omega,by omega,by omega,by omega,by omega,by omega⟩);clear hCM HLA;go_wp2_with fail
 refine HRN.o.mono ?_
 rintro e w5 ⟨rfl,hE,hCM⟩;have HCM5:=hd hCM
 have HE5:Hd (Ext [] w w5):=hd ((HE3.o.trans HE4.o).step hE fun x hx=>.inr (by
  have:=HE3.o.size;simp only[List.mem_cons,List.not_mem_nil,or_false] at hx;rcases hx with rfl|rfl|rfl<;>omega))
 have HNO:Hd (ra∉[eb,b1,c1]/\rb∉[eb,b1,c1]/\rd∉[eb,b1,c1]):=hd (by
  simp only[List.mem_cons,List.not_mem_nil,or_false];omega)
 have HA5:=hd ((HA3.o.ext HE4.o (by simp)).ext hE HNO.o.1);have HC5:=hd ((HC3.o.ext HE4.o (by simp)).ext hE HNO.o.2.1);have HD5:=hd ((HD3.o.ext HE4.o (by simp)).ext hE HNO.o.2.2);clear hE hCM HRN;have qm:=HCM5.o.mem.blk.cell;have qml:=HCM5.o.mem.blk.lt;simp only[List.length_cons,List.length_nil,Nat.zero_add,Nat.reduceAdd] at qm;have qa:=HA5.o.cell;have qaf:=HA5.o.frozen;have qal:=HA5.o.lt;have qc:=HC5.o.cell;have qcf:=HC5.o.frozen;have qcl:=HC5.o.lt;have qd:=HD5.o.cell;have qdf:=HD5.o.frozen;have qdl:=HD5.o.lt;have hab1:ra≠rb:=by omega
 have hab2:ra≠rd:=by omega
 have hab3:rb≠rd:=by omega
 have hm1:mb≠ra:=by omega
 have hm2:mb≠rb:=by omega
 have hm3:mb≠rd:=by omega
 go_upto_region 9 with fail
 go_region
 have HA6:=hd (((HA5.o.set_' 0 (.slice (some ⟨wb,0,none⟩) 2 cw) #[.slice (some ⟨wb,0,none⟩) 2 cw] rfl).far (p:=⟨rb,0,none⟩) hab1 (.slice (some ⟨sb,0,none⟩) 2 cs)).far (p:=⟨rd,0,none⟩) hab2 (.int .i64 0)).drew;have HC6:=hd (((HC5.o.far (p:=⟨ra,0,none⟩) (Ne.symm hab1) (.slice (some ⟨wb,0,none⟩) 2 cw)).set_' 0 (.slice (some ⟨sb,0,none⟩) 2 cs) #[.slice (some ⟨sb,0,none⟩) 2 cs] rfl).far (p:=⟨rd,0,none⟩) hab3 (.int .i64 0)).drew;have HD6:=hd (((HD5.o.far (p:=⟨ra,0,none⟩) (Ne.symm hab2) (.slice (some ⟨wb,0,none⟩) 2 cw)).far (p:=⟨rb,0,none⟩) (Ne.symm hab3) (.slice (some ⟨sb,0,none⟩) 2 cs)).set_' 0 (.int .i64 0) #[.int .i64 0] rfl).drew;have HES:=hd ((((Ext.refl [ra,rb,rd] w5).setAt (b:=ra) (i:=0) (u:=.slice (some ⟨wb,0,none⟩) 2 cw) (.inl (by simp))).setAt (b:=rb) (i:=0) (u:=.slice (some ⟨sb,0,none⟩) 2 cs) (.inl (by simp))).setAt (b:=rd) (i:=0) (u:=.int .i64 0) (.inl (by simp))).drew;generalize World.drew _=w6 at *;have HCM6:=hd (HCM5.o.ext HES.o (by simp only[List.mem_cons,List.not_mem_nil,or_false];omega))
 have HE6:Hd (Ext [] w w6):=hd (HE5.o.step HES.o fun x hx=>.inr (by
  simp only[List.mem_cons,List.not_mem_nil,or_false] at hx;rcases hx with rfl|rfl|rfl<;>omega))
 clear qm qa qaf qc qcf qd qdf;go_wp2_with fail
 refine leaves_cons (f:=95) (args:=#[.pointer (some ⟨ra,0,none⟩),.pointer (some ⟨rb,0,none⟩),.pointer (some ⟨rd,0,none⟩)]) (by simp) (by simp[go_sem]) ?_
 refine(run1_idle ⟨ra,0,none⟩ ⟨rb,0,none⟩ ⟨rd,0,none⟩ _).mono ?_
 rintro e u' w'' ⟨rfl,rfl,rfl⟩;exact⟨_,results_run rfl _ _ ra rb rd _ _ _ rfl rfl rfl HA6.o HC6.o HD6.o,mb,wb,sb,cw,cs,b0,c0,b1,c1,rfl,HE6.o,HCM6.o⟩
end
def afI (b:Nat):Af:=⟨0,some ⟨b,0,none⟩,1,[(nmI,1)]⟩
def afZ:Af:=⟨0,none,0,[]⟩
def exI (b:Nat):EH:=⟨3,0,0,0,0,0,0,afI b,none,0⟩
def exZ:EH:=⟨0,0,0,0,0,0,0,afZ,none,0⟩
def hsI (b:Nat):SH:=⟨3,⟨#[]⟩,0,0,0,false,none,0,[],none,0,1,afI b,.mk (exI b) []⟩
def hfI (s:Nat):SH:=⟨1,nmI,0,2,1,false,none,0,[],some ⟨s,0,none⟩,1,0,afZ,.mk exZ []⟩
def bsI:List Bf:=[⟨⟨#[97]⟩,2,true,none,0,[]⟩,⟨⟨#[98]⟩,2,false,none,0,[]⟩]
def pgI (b s a f:Nat):Pg:=⟨some ⟨a,0,none⟩,2,bsI,some ⟨f,0,none⟩,1,[.mk (hfI s) [.mk (hsI b) []]]⟩
theorem evA_I (b:Nat)(x:Int):evA [(nmI,x)] (afI b)=x:=by
 have h:lk [(nmI,x)] nmI=x:=by simp[lk,eqS]
 simp[evA,afI,h]
theorem copyS_I (b:Nat):CopyS (hsI b):=⟨rfl,rfl,evA_I b,exI b,rfl,rfl,rfl,evA_I b⟩
theorem copyF_I (s:Nat):CopyF (hfI s):=⟨rfl,rfl,rfl,rfl,rfl,by kernel_rfl⟩
theorem checkE_I (b s:Nat):checkE bsI [.mk (hfI s) [.mk (hsI b) []]]=0:=by kernel_rfl
theorem keysB_I (b s:Nat):(keysB [.mk (hfI s) [.mk (hsI b) []]]).length=2:=by kernel_rfl
theorem orderE_I (b s a f:Nat):orderE (pgI b s a f)=0:=by kernel_rfl
theorem stInfo:∃i,Tryz.prog.info? 43=some i/\i.zero=some (.agg zSt)/\i.size=21:=by
 have h:((Tryz.prog).info? 43).map (fun i=>(i.zero,i.size))=some (some (.agg zSt),21):=by kernel_rfl
 obtain⟨i,hi,he⟩:=Option.map_eq_some_iff.1 h;simp only[Prod.mk.injEq] at he;exact⟨i,hi,he.1,he.2⟩
theorem st_slice (w:World)(h:SH)(n:Nat)(x:EH)(m:Nat):(Instr.buildSlice 27 1 #[(0,.agg (stArr h n x m))]).run Tryz.prog w=.ok (.slice (some ⟨w.heap.size,0,none⟩) 1 1) (w.alloc (.cells (stArr h n x m) 43)):=by
 obtain⟨i0,hi0,hz0,hz1⟩:=stInfo;refine run_buildSlice w _ _ 1 _ _ i0 _ Tryz.underlying27 hi0 hz0 (by rw[hz1];decide) (by rw[hz1];decide) ?_
 rw[hz1];have hz:((Array.range (1*21)).map (fun x=>(Value.agg zSt).cells[x % (Value.agg zSt).cells.size]!))=zSt:=by kernel_rfl
 rw[hz];simp[Instr.fill,stArr,zSt,Value.cells]
theorem bf_slice (w:World):(Instr.buildSlice 26 2 #[(0,.agg #[.string ⟨#[97]⟩,.int .i64 2,.bool true,.slice none 0 0]),(1,.agg #[.string ⟨#[98]⟩,.int .i64 2,.bool false,.slice none 0 0])]).run Tryz.prog w=.ok (.slice (some ⟨w.heap.size,0,none⟩) 2 2) (w.alloc (.cells #[.string ⟨#[97]⟩,.int .i64 2,.bool true,.slice none 0 0,.string ⟨#[98]⟩,.int .i64 2,.bool false,.slice none 0 0] 45)):=by kernel_rfl
theorem wpList_op_run {P:Program}{ops:Array Oper}{rest:List Oper}{o:Oper}{a:Act}{w:World}{Q:Exit->Act->World->Prop}(hg:o.guard=none)(v:Value)(w':World)(hr:(execOp a.eval o).run P w=.ok (.value v) w')
  (h:wpList P ops Q rest (a.put o.dst v) w'):wpList P ops Q (o :: rest) a w:=
 wpList_plain hg fun _ hK=>by unfold Oper.wp;rw[hr];exact hK _ _ h
theorem seq_nil {α:Type}(w:World)(A:Option Addr)(k:Nat)(cs:α->List Value):SeqIn w A k cs []:=⟨by simp,.inl rfl⟩
theorem seq_one {α:Type}{w:World}{b k:Nat}{cs:α->List Value}{x:α}(h:∀(j:Nat) (v:Value),(cs x)[j]? = some v->w.cell? ⟨b,j,none⟩=some v):SeqIn w (some ⟨b,0,none⟩) k cs [x]:=⟨by simp,.inr ⟨b,rfl,fun i y hy j v hv=>by
 have hi:=(List.getElem?_eq_some_iff.1 hy).1;simp only[List.length_singleton] at hi;have:i=0:=by omega
 subst this;cases hy
 rw[Nat.zero_mul,Nat.zero_add];exact h j v hv⟩⟩
theorem pgI_in {w:World}{b s a f:Nat}(hT:Blk w b 178 #[.string ⟨#[105]⟩,.int .i64 1])(hS:Blk w s 43 (stArr (hsI b) 0 (exI b) 0))
  (hA:Blk w a 45 #[.string ⟨#[97]⟩,.int .i64 2,.bool true,.slice none 0 0,.string ⟨#[98]⟩,.int .i64 2,.bool false,.slice none 0 0]) (hF:Blk w f 43 (stArr (hfI s) 1 exZ 0)):PgIn w (pgI b s a f):=by
 have hAf:AfIn w (afI b):=seq_one fun j v hv=>by
  rw[hT.cell];simpa[tmC,nmI] using hv
 have hZ:AfIn w afZ:=seq_nil ..;have hs:StIn w (.mk (hsI b) []):=.mk _ _ (seq_nil ..) (fun a h=>by simp[hsI] at h) hAf (.mk _ _ hAf (seq_nil ..) (fun e h=>by simp at h)) (by simp[hsI,parts,partsL]) (by show(⟨#[]⟩:ByteArray).size<=1000000;decide) (seq_nil ..) (fun s h=>by simp at h);refine⟨⟨by simp[pgI,bsI],.inr ⟨a,rfl,fun i x hx j v hv=>?_⟩⟩,fun x hx=>?_,⟨by simp[pgI,bsI],by simp[pgI]⟩,seq_one fun j v hv=>?_,fun x hx=>?_⟩
 ·rw[hA.cell];have hi:=(List.getElem?_eq_some_iff.1 hx).1;simp only[pgI,bsI,List.length_cons,List.length_nil] at hi;have hii:i=0\/i=1:=by omega
  have hj:=(List.getElem?_eq_some_iff.1 hv).1;simp only[bfC,List.length_cons,List.length_nil] at hj;have hjj:j=0\/j=1\/j=2\/j=3:=by omega
  rcases hii with rfl|rfl<;>cases hx<;>rcases hjj with rfl|rfl|rfl|rfl<;>exact hv
 ·simp only[pgI,bsI,List.mem_cons,List.not_mem_nil,or_false] at hx;rcases hx with rfl|rfl<;>exact⟨seq_nil ..,by decide⟩
 ·rw[hF.cell];simpa[stC,stH,stK,stArr,hfI,exZ,Ex.h,Ex.ks] using hv
 ·simp only[pgI,List.mem_cons,List.not_mem_nil,or_false] at hx;subst hx;refine .mk _ _ (seq_nil ..) (fun a h=>by simp[hfI] at h) hZ (.mk _ _ hZ (seq_nil ..) (fun e h=>by simp at h)) (by simp[hfI,parts,partsL]) (by show nmI.size<=1000000;decide) (seq_one fun j v hv=>?_) (fun x hx=>?_)
  ·rw[hS.cell];simpa[stC,stH,stK,stArr,hsI,exI,Ex.h,Ex.ks] using hv
  ·rw[List.mem_singleton.1 hx];exact hs
theorem wpList_halt {P:Program}{ops:Array Oper}{rest:List Oper}{o:Oper}{a:Act}{w:World}{Q:Exit->Act->World->Prop}(ty:TypeId)(x y:Operand)(ho:o.op=.store ty x y)(h:Hd (wpList P ops Q (o :: rest) a w)):wpList P ops Q (o :: rest) a w:=h.o
set_option maxHeartbeats 8000000 in
set_option maxRecDepth 100000 in
theorem loop_any (w:World):Calls Tryz.prog 43 #[] w fun e w'=>∃b s a f,e=.returned (pgV (pgI b s a f))/\Ext [] w w'/\PgIn w' (pgI b s a f)/\Blk w' a 45 #[.string ⟨#[97]⟩,.int .i64 2,.bool true,.slice none 0 0,.string ⟨#[98]⟩,.int .i64 2,.bool false,.slice none 0 0]:=by
 go_enter Tryz.func43,Tryz.ntmps43
 go_upto_region 2 with fail
 generalize hW:World.alloc (World.alloc (World.alloc w _) _) _=w3;generalize hs0:w.heap.size=s at *;have HE3:Hd (Ext [] w w3):=hd (by rw[<-hW];exact(((Ext.refl [] w).alloc _).alloc _).alloc _);have HP3:Hd (Blk w3 s 29 #[.slice none 0 0,.slice none 0 0]):=hd (by rw[<-hW];exact((Blk.new' w _ _ s hs0.symm).alloc _).alloc _);have HT3:Hd (Blk w3 (s+1) 178 #[.string ⟨#[105]⟩,.int .i64 1]):=hd (by rw[<-hW];exact(Blk.new' _ _ _ (s+1) (by rw[alloc_size,hs0])).alloc _);have HA3:Hd (Blk w3 (s+1+1) 38 #[.int .i64 0,.slice (some ⟨s+1,0,none⟩) 1 1]):=hd (by rw[<-hW];exact Blk.new' _ _ _ (s+1+1) (by rw[alloc_size,alloc_size,hs0]));have hw3:w3.heap.size=s+1+1+1:=by rw[<-hW,alloc_size,alloc_size,alloc_size,hs0]
 clear hW;generalize hsb:s+1=sb at *;generalize hsa:sb+1=sa at *;have HSZ:=hd (show(Tryz.prog.info? 43).map (·.size)=some (stArr (hsI sb) 0 (exI sb) 0).size from infoSt);have HZS:=hd (show zSt.size=(stArr (hsI sb) 0 (exI sb) 0).size from rfl);have HON:=hd (stArr_one (hsI sb) 0 (exI sb) 0);have HB4:=hd (Blk.new w3 43 (stArr (hsI sb) 0 (exI sb) 0));have HEx4:=hd ((Ext.refl [] w3).alloc (.cells (stArr (hsI sb) 0 (exI sb) 0) 43));have hw4:(w3.alloc (.cells (stArr (hsI sb) 0 (exI sb) 0) 43)).heap.size=w3.heap.size+1:=alloc_size _ _;have hst:=fun W=>st_slice W (hsI sb) 0 (exI sb) 0
 have qa:=HA3.o.cell;have qal:=HA3.o.lt;go_upto_region 3 with(refine wpList_make_wide rfl rfl 43 _ _ rfl rfl zSt (zSt_run _) (stArr (hsI sb) 0 (exI sb) 0) rfl rfl HSZ.o HZS.o HON.o ?_)
 clear qa qal;generalize harr:stArr (hsI sb) 0 (exI sb) 0=arr at *;have HARR:=hd harr;clear harr;generalize hW:World.alloc w3 _=w4 at *;generalize hs3:w3.heap.size=s3 at *;have HP4:=hd (HP3.o.ext HEx4.o (by simp));have HT4:=hd (HT3.o.ext HEx4.o (by simp));have HE4:=hd (HE3.o.trans HEx4.o);clear hW;simp only[Act.put,List.setIfInBounds_toArray,List.set_cons_succ,List.set_cons_zero];have hbf:=bf_slice;have hsf:=fun W b=>st_slice W (hfI b) 1 exZ 0
 dsimp only[stArr,hfI,afZ,exZ,List.length_nil,nmI] at hsf;have qs:=HP4.o.cell;have qsf:=HP4.o.frozen;have qsl:=HP4.o.lt;have q3l:=HB4.o.lt
 go_wp2_with (first
  | refine wpList_load_wide rfl 43 _ rfl s3 0 rfl arr (Blk.wide (HB4.o.alloc _)) _ Tryz.underlying43 rfl HSZ.o ?_
  | refine wpList_op_run rfl _ _ (exec_buildSlice (t:=27) (n:=1) (i:=0) (x:=.tmp 13) rfl _ _ _ _ (.agg arr) rfl (hst _)) ?_
  | refine wpList_halt 29 _ _ rfl ?_)
 refine hd ?_
 refine wpList_store_wide rfl 29 _ _ rfl s _ #[.slice none 0 0,.slice none 0 0] 29 rfl rfl (((HP4.o.alloc _).alloc _).alloc _) (by kernel_rfl) rfl (by simp;repeat(first|exact rfl|refine⟨rfl,?_⟩)) ?_
 intro w9 hB9 hE9;have HB9:=hd hB9;have HX9:=hd ((((HE4.o.alloc _).alloc _).alloc _).step hE9 fun x hx=>.inr (by rw[List.mem_singleton.1 hx];omega));have HT9:=hd ((((HT4.o.alloc _).alloc _).alloc _).ext hE9 (by rw[List.mem_singleton];omega));have HA9:=hd ((((Blk.new w4 _ _).alloc _).alloc _).ext hE9 (by rw[List.mem_singleton];omega));have HS9:=hd (((Blk.new (w4.alloc _) _ _).alloc _).ext hE9 (by rw[List.mem_singleton,alloc_size];omega));have HF9:=hd ((Blk.new ((w4.alloc _).alloc _) _ _).ext hE9 (by rw[List.mem_singleton,alloc_size,alloc_size];omega));clear hB9 hE9;rw[alloc_size,hw4,hw3] at HS9;rw[alloc_size,alloc_size,hw4,hw3] at HF9;rw[hw4,hw3] at HA9;have HPG:Hd (PgIn w9 (pgI sb (sa+1+1+1) (sa+1+1) (sa+1+1+1+1))):=hd (pgI_in HT9.o (by rw[HARR.o];exact HS9.o) HA9.o HF9.o);clear hsf hbf hst qs qsf HS9 HF9 HT9;go_wp2_with fail
 exact bodyPost_ret (results_cell_row rfl _ _ s 29 _ (0,0) _ rfl HB9.o Tryz.underlying29 rfl (by kernel_rfl)) rfl ⟨sb,sa+1+1+1,sa+1+1,sa+1+1+1+1,rfl,HX9.o,HPG.o,HA9.o⟩
theorem list_ext_take {xs ys:List Int}{n:Nat}(hx:xs.length=n)(hy:ys.length=n)(h:∀j,j<n->xs[j]? = ys[j]?):xs=ys:=by
 apply List.ext_getElem?
 intro i;rcases Nat.lt_or_ge i n with h1|h1
 ·exact h i h1
 ·rw[List.getElem?_eq_none (by omega),List.getElem?_eq_none (by omega)]
set_option maxHeartbeats 1000000 in
set_option maxRecDepth 100000 in
theorem equal_same (A B:Option Addr)(ca cb n:Nat)(xs ys:List Int)(w:World)(hA:RdI w A xs)(hB:RdI w B ys)(hl:n<=9223372036854775807)(hx:xs.length=n)(hy:ys.length=n) :
  Calls Tryz.prog 44 #[.slice A n ca,.slice B n cb] w fun e w'=>e=.returned (.bool (decide (xs=ys)))/\Ext [] w w':=by
 have HA:=hd hA;have HB:=hd hB;have HLX:=hd hx;have HLY:=hd hy;clear hA hB hx hy;go_enter Tryz.func44,Tryz.ntmps44
 go_wp2_with fail
 go_loopw [13] (fun i wr=>∃k:Nat,i=.int .i64 k/\k<=n/\Ext [] w wr/\Hd (∀j,j<k->xs[j]? = ys[j]?)) (fun i _=>(n-intOf i).toNat)
 case atStart=>exact⟨0,rfl,Nat.zero_le _,Ext.refl _ _,hd fun j hj=>absurd hj (by omega)⟩
 case round=>
  obtain⟨k,rfl,hk,hE,HN⟩:=hrel;have HE:=hd hE;by_cases hlt:k<n
  ·have hx:=List.getElem?_eq_getElem (l:=xs) (i:=k) (by have:=HLX.out;omega);have hy:=List.getElem?_eq_getElem (l:=ys) (i:=k) (by have:=HLY.out;omega);rcases HA.out.ext hE (by simp) with h0|⟨b,o,rfl,hc⟩
   ·have:=HLX.out;simp[h0] at this;omega
   rcases HB.out.ext hE (by simp) with h0|⟨b2,o2,rfl,hc2⟩
   ·have:=HLY.out;simp[h0] at this;omega
   have hcx:=hc k _ hx;have hcy:=hc2 k _ hy;have HX:=hd hx;have HY:=hd hy;generalize xs[k]'_=x at hcx HX;generalize ys[k]'_=y at hcy HY;clear hc hc2 hx hy hE;by_cases hxy:x=y
   ·subst hxy;go_wp2_with fail
    go_quiet (fail)
    go_wp2_with fail
    go_roundw
    case rel=>
     refine⟨k+1,by go_num,by omega,HE.out.drewN _,hd fun j hj=>?_⟩
     rcases Nat.lt_or_ge j k with h1|h1
     ·exact HN.out j h1
     ·have:j=k:=by omega
      rw[this,HX.out,HY.out]
    case measure=>simp[intOf];omega
   ·have hb:(x != y)=true:=by simpa using hxy
    have HV:Hd (xs≠ys):=hd fun e=>by
     have:=HX.out;rw[e,HY.out] at this;exact hxy (Option.some.inj this).symm
    clear hxy;go_wp2_with fail
    go_quiet (fail)
    go_wp2_with fail
    go_ret
    exact⟨ret_bool (by simpa using HV.out),HE.out.drewN _⟩
  ·clear hE;have HV:Hd (xs=ys):=hd (list_ext_take HLX.out HLY.out (fun j hj=>HN.out j (by omega)));go_wp2_with fail
   go_ret
   exact⟨ret_bool (by simpa using HV.out),HE.out⟩
theorem equal_int (A B:Option Addr)(ca cb:Nat)(xs ys:List Int)(w:World)(hA:RdI w A xs)(hB:RdI w B ys)(hl:xs.length<=9223372036854775807)(hl2:ys.length<=9223372036854775807) :
  Calls Tryz.prog 44 #[.slice A xs.length ca,.slice B ys.length cb] w fun e w'=>e=.returned (.bool (decide (xs=ys)))/\Ext [] w w':=by
 by_cases hlen:xs.length=ys.length
 ·have:=equal_same A B ca cb ys.length xs ys w hA hB hl2 hlen rfl;rw[hlen];exact this
 ·have hb:((xs.length:Int) != (ys.length:Int))=true:=by simp;omega
  have HV:Hd (xs≠ys):=hd fun e=>hlen (by rw[e])
  generalize xs.length=a at *;generalize ys.length=b at *;clear hA hB;go_enter Tryz.func44,Tryz.ntmps44
  go_wp2_with fail
  go_ret
  exact⟨ret_bool (by simpa using HV.out),Ext.refl _ _⟩
def hzI:SH:=⟨0,⟨#[]⟩,0,0,0,false,none,0,[],none,0,0,afZ,.mk exZ []⟩
theorem checkE_Z:checkE [] [.mk hzI []]=4:=by kernel_rfl
set_option maxHeartbeats 8000000 in
set_option maxRecDepth 100000 in
theorem work_any (w:World):Calls Tryz.prog 17 #[] w (HasP true w):=by
 have HLP:=hd loop_any;go_enter Tryz.func17,Tryz.ntmps17
 go_wp2_with fail
 refine(HLP.o w).mono ?_
 rintro e w1 ⟨b,s,a,f,rfl,hE,hP,hA⟩;have HE1:=hd hE;have HP1:=hd hP;have HA1:=hd hA;clear hE hP hA;unfold pgV pgI;dsimp only[bsI,List.length_cons,List.length_nil];go_wp2_with fail
 generalize hW:World.alloc (World.alloc w1 _) _=w2;have HE2:Hd (Ext [] w1 w2):=hd (by rw[<-hW];exact((Ext.refl [] w1).alloc _).alloc _);have HV2:Hd (Blk w2 w1.heap.size 3 #[.int .i64 4,.int .i64 5]):=hd (by rw[<-hW];exact(Blk.new w1 _ _).alloc _);have HI2:Hd (Blk w2 (w1.heap.size+1) 22 #[.slice (some ⟨w1.heap.size,0,none⟩) 2 2,.slice none 0 0]):=hd (by rw[<-hW];exact Blk.new' _ _ _ _ (by rw[alloc_size]));clear hW;have HBI:=hd (BegI.mk (HA1.o.ext HE2.o (by simp)) HI2.o HV2.o);refine(run_copy bsI (some ⟨f,0,none⟩) 1 (hfI s) (hsI b) a (w1.heap.size+1) w1.heap.size w2 rfl (HP1.o.keep HE2.o) (checkE_I b s) (copyF_I s) (copyS_I b) HBI.o).mono ?_
 rintro e w3 ⟨mb,wb,sb,cw,cs,b0,c0,b1,c1,rfl,hE,hM⟩;have HE3:=hd ((HE1.o.trans HE2.o).trans hE);have HM3:=hd hM;clear hE hM HV2 HI2 HBI HP1 HA1;go_wp2_with fail
 refine(HLP.o w3).mono ?_
 rintro e w4 ⟨b',s',a',f',rfl,hE,hP,hA⟩;have HE4:=hd (HE3.o.trans hE);have HP4:=hd hP;have HM4:=hd (HM3.o.ext hE (by simp));clear hE hP hA HM3;have HIN:=hd (instances_any _ w4 HP4.o);unfold InstP at HIN;rw[orderE_I] at HIN;go_wp2_with fail
 refine HIN.o.mono ?_
 rintro e w5 ⟨hE,⟨h1,-⟩|⟨-,O,v,rfl,hK,-,⟨BB,-,hR⟩,-⟩⟩
 ·exact absurd rfl h1
 have hO:O.length=2:=by
  have h1:=congrArg List.length hK;rw[List.length_map] at h1;exact h1.trans (keysB_I b' s')
 obtain⟨OA,oc,rfl,-,-⟩:=own_form hR;rw[hO] at hR⊢;have HE5:=hd (HE4.o.trans hE);have HM5:=hd (HM4.o.ext hE (by simp));clear hE hK hR HIN hO HM4;have q1:=(HM5.o.mem.row 1 _ rfl).1;simp only at q1;have q1l:=World.block_lt_of_cell? w5 _ q1;simp only at q1l;go_wp2_with fail
 generalize hW:World.alloc w5 _=w6;have HE6:Hd (Ext [] w5 w6):=hd (by rw[<-hW];exact(Ext.refl [] w5).alloc _);have HV6:Hd (Blk w6 w5.heap.size 3 #[.int .i64 4,.int .i64 5]):=hd (by rw[<-hW];exact Blk.new w5 _ _);clear hW
 have HR1:Hd (∀(W:World) (x:Nat),Blk W x 3 #[.int .i64 4,.int .i64 5]->RdI W (some ⟨x,0,none⟩) [4,5]):=hd fun W x h=>.inr ⟨x,0,rfl,fun i y hy=>by
  rw[Nat.zero_add,h.cell];have hi:=(List.getElem?_eq_some_iff.1 hy).1;simp only[List.length_cons,List.length_nil] at hi;have:i=0\/i=1:=by omega
  rcases this with rfl|rfl<;>(cases hy;rfl)⟩
 refine(equal_int (some ⟨b1,0,none⟩) (some ⟨w5.heap.size,0,none⟩) 2 2 [4,5] [4,5] w6 (HR1.o _ _ (HM5.o.w1.ext HE6.o (by simp))) (HR1.o _ _ HV6.o) (by simp) (by simp)).mono ?_
 rintro e w7 ⟨rfl,hE⟩;have HE7:=hd ((HE5.o.trans HE6.o).trans hE);clear hE;rw[decide_eq_true (rfl:([4,5]:List Int)=[4,5])];go_wp2_with fail
 generalize hW:World.alloc w7 _=w8;have HE8:Hd (Ext [] w w8):=hd (by rw[<-hW];exact HE7.o.alloc _);have HZ8:Hd (Blk w8 w7.heap.size 43 (stArr hzI 0 exZ 0)):=hd (by rw[<-hW];exact Blk.new w7 _ _);clear hW
 have HPZ:=hd (show PgIn w8 ⟨none,0,[],some ⟨w7.heap.size,0,none⟩,1,[.mk hzI []]⟩ from⟨seq_nil ..,fun b hb=>by simp at hb,⟨by simp,by simp⟩,seq_one fun j v hv=>by
  rw[HZ8.o.cell];simpa[stC,stH,stK,stArr,hzI,exZ,Ex.h,Ex.ks] using hv,fun s hs=>by
  rw[List.mem_singleton.1 hs];exact .mk _ _ (seq_nil ..) (fun a h=>by simp[hzI] at h) (seq_nil ..) (.mk _ _ (seq_nil ..) (seq_nil ..) (fun e h=>by simp at h)) (by simp[hzI,parts,partsL]) (by show(⟨#[]⟩:ByteArray).size<=1000000;decide) (seq_nil ..) (fun s h=>by simp at h)⟩)
 have HCK:=hd (check_any _ w8 HPZ.o);unfold ErrP at HCK;dsimp only at HCK;rw[checkE_Z] at HCK;refine HCK.o.mono ?_
 rintro e w9 ⟨rfl,hE⟩;have HE9:=hd (HE8.o.trans hE);clear hE;go_wp2_with fail
 go_ret
 exact⟨rfl,HE9.o⟩
end Go.Proofs.YtfppibmloloakaaGreatDoor
