import Derived.Test.YtfppibmloloakaaGreatDoorP48
namespace Go.Proofs.YtfppibmloloakaaGreatDoor
open Go.RowKit Go.Proofs.Tryz
set_option linter.all false
def SpxP (Q:Nat->Prop)(M K base g n:Nat)(w:World)(e:Ending)(w':World):Prop:=∃e':Ex,e=.returned (exV e')/\ExA Q M w' e'/\parts e'<=K/\Ext [g] w w'/\Stm w' base g n
def SpxC (e:Ex):Prop:=∀(P Q:Nat->Prop) (N base g n:Nat) (w:World),(∀b,P b->Q b)->(∀b,w.heap.size<=b->Q b)->(∀b,P b->b<w.heap.size)->¬P g->N<=1000->ExA P N w e->Stm w base g (n+60*parts e)->
 Calls Tryz.prog 158 #[.pointer (some ⟨g,0,none⟩),exV e] w (SpxP Q (2*N+40) (parts e+40) base g n w)
def sSx (P:Nat->Prop)(H M K:Nat):Spec:=⟨Ex,exZ0,exV,fun x w=>ExA (fun b=>P b\/H<=b) M w x/\parts x<=K⟩
theorem sSx.stays {P:Nat->Prop}{H M K g:Nat}(hP:¬P g)(hg:g<H):∀y w w',Ext [g] w w'->(sSx P H M K).V y w->(sSx P H M K).V y w':=fun y w w' hE h=>⟨ExA.ext hE (fun x hx hh=>by rw[List.mem_singleton.1 hx] at hh;rcases hh with e|e;exact hP e;omega) h.1,h.2⟩
theorem partsL_snoc (x:Ex):∀l:List Ex,partsL (l ++ [x])=partsL l+parts x
 | []=>by simp[partsL]
 | y :: l=>by rw[List.cons_append,partsL,partsL_snoc x l,partsL];omega
def exK1:Ex:=.mk ⟨1,0,0,0,0,0,0,afZ0,none,0⟩ []
theorem exK1_built:Tryz.prog.built 41 [(0,.int .i64 1)]=some (exArr exK1):=by kernel_rfl
theorem exK1_A (P:Nat->Prop)(N:Nat)(w:World):ExA P N w exK1:=.mk _ _ (SeqA.nil ..) (SeqA.nil ..) (fun e h=>by cases h)
def exNs (b:Nat)(x:Ex):Ex:=.mk ⟨5,11,0,0,0,0,0,afZ0,some ⟨b,0,none⟩,1⟩ [x]
theorem exNs_built (b:Nat)(x:Ex):Tryz.prog.built 41 [(0,.int .i64 5),(1,.int .i64 11),(8,.slice (some ⟨b,0,none⟩) 1 1)]=some (exArr (exNs b x)):=by kernel_rfl
theorem SpX.nest {w wx wy:World}{Q:Nat->Prop}{M base g n rb eb:Nat}{h:EH}{ks:List Ex}(s:SpX w Q M base g n rb eb h ks wx)(hM:1<=M)(hQ:∀b,wx.heap.size<=b->Q b){b:Nat}(hb:wx.heap.size<=b)(hE:Ext [eb] wx wy)(hB:Blk wy eb 41 (exArr (exNs b (.mk h ks))))(hN:Blk wy b 41 (exArr (.mk h ks))) :
  SpX w Q M base g n rb eb ⟨5,11,0,0,0,0,0,afZ0,some ⟨b,0,none⟩,1⟩ [.mk h ks] wy:=by
 have h0:=s.g0;have h1:=s.eb0;have h2:=s.ebr;have h3:=s.bg;have h4:=s.res.lt;have h5:=s.stm.lt;refine⟨s.ext.step hE fun q hq=>.inr (by rw[List.mem_singleton.1 hq];exact s.eb0),s.stm.ext hE (by rw[List.mem_singleton];omega) (fun q hq=>by rw[List.mem_singleton.1 hq];omega),s.res.ext hE (by rw[List.mem_singleton];omega),hB,?_,s.eb0,s.ebr,s.g0,s.bg⟩
 refine .mk _ _ (SeqA.nil ..) ⟨by rw[List.length_singleton];exact hM,.inr ⟨b,rfl,⟨hQ b hb,by omega,by omega,by omega⟩,hN.lt,fun i x hx j v hv=>?_⟩⟩ fun e he=>?_
 ·have hi:=(List.getElem?_eq_some_iff.1 hx).1;rw[List.length_singleton] at hi;have:i=0:=by omega
  subst this;cases hx
  rw[Nat.zero_mul,Nat.zero_add,hN.cell,<-Array.getElem?_toList,<-exC_arr];exact hv
 ·rw[List.mem_singleton.1 he];exact ExA.ext hE (fun x hx hh=>hh.2.1 (List.mem_singleton.1 hx)) s.kid
set_option maxHeartbeats 8000000 in
set_option maxRecDepth 100000 in
theorem spx_step (h:EH)(ks:List Ex)(ih:∀e∈ks,SpxC e):SpxC (.mk h ks):=by
 intro P Q N base g n w hPQ hQ hPB hPg hN hX hS;have HS:=hd hS;have hg:=hS.lt;have hbg:=hS.base;have HX:=hd hX;have HI:=hd ih;have HPQ:=hd hPQ;have HQ:=hd hQ;have HPG:=hd hPg;have HPB:=hd hPB;have hln:ks.length<=N:=hX.all.2.1.1;clear hS hX ih hPQ hQ hPg hPB;have hev:exV (.mk h ks)=.agg (exArr (.mk h ks)):=exV_arr _;rw[hev];clear hev;unfold exArr;simp only[Ex.h,Ex.ks];generalize hl:ks.length=L at *;have HL:=hd hl;clear hl;go_enter Tryz.func158,Tryz.ntmps158
 go_upto_region 1 with fail
 have HPA:=hd (parts_pos (.mk h ks));have HA0:exArr (.mk h ks)=#[.int .i64 h.k,.int .i64 h.op,.int .i64 h.lo,.int .i64 h.hi,.int .i64 h.n,.int .i64 h.m,.int .i64 h.buf,.int .i64 h.at_.base,.slice h.at_.A h.at_.ts.length h.at_.cap,.slice h.A L h.cap]:=by rw[<-HL.o];rfl
 have HAA:=hd HA0;rw[<-HA0];clear HA0;have HE1:=hd (((Ext.refl [g] w).alloc (.cells (exArr (.mk h ks)) 41)).alloc (.cells zEx 41));have HB1:=hd ((Blk.new w 41 (exArr (.mk h ks))).alloc (.cells zEx 41));have HR1:=hd (Blk.new (w.alloc (.cells (exArr (.mk h ks)) 41)) 41 zEx);have HS1:=hd ((HS.o.alloc (.cells (exArr (.mk h ks)) 41)).alloc (.cells zEx 41));rw[alloc_size] at HR1;have HXX:=hd (ExA.ext HE1.o (fun x hx hp=>HPG.o (List.mem_singleton.1 hx ▸ hp)) HX.o);have HK1:Hd (ExA (fun b=>Q b/\b≠w.heap.size/\b≠w.heap.size+1/\b≠g) (2*N+40) ((w.alloc (.cells (exArr (.mk h ks)) 41)).alloc (.cells zEx 41)) (.mk h ks)):=hd (ExA.ext HE1.o (fun x hx hp=>hp.2.2.2 (List.mem_singleton.1 hx)) (ExA.mono (fun b hb hp=>⟨HPQ.o b hp,by omega,by omega,fun e=>HPG.o (e ▸ hp)⟩) (by omega) HX.o));change Code.wp _ _ _ _ ((w.alloc (.cells (exArr (.mk h ks)) 41)).alloc (.cells zEx 41));generalize World.alloc (World.alloc w _) _=w1 at *;have HP1:Hd (SpX w Q (2*N+40) base g (n+60*parts (.mk h ks)) (w.heap.size+1) w.heap.size h ks w1):=hd ⟨HE1.o,HS1.o,HR1.o,HB1.o,HK1.o,Nat.le_refl _,by omega,hg,hbg⟩;have HW1:=hd HE1.o.size;clear HE1 HB1 HR1 HS1 HK1;generalize heb:w.heap.size=eb at *;generalize hB:60*parts (.mk h ks)=B at *;have hB60:60<=B:=by have:=HPA.o;omega
 go_cut [13] (fun s wx=>∃b:Bool,s=.bool b/\(b=true->0<L)/\Hd (ExA P N wx (.mk h ks))/\Hd (SpX w Q (2*N+40) base g (n+B-1) (eb+1) eb h ks wx))
 case first=>
  have qb:=HP1.o.blk.cell;have qbf:=HP1.o.blk.frozen;have qbl:=HP1.o.blk.lt;rw[HAA.o] at qb;by_cases hz:L=0
  ·subst hz;have h0:decide ((0:Int)<0)=false:=by decide
   go_wp2_with fail
   go_meet
   exact⟨false,rfl,by simp,HXX,hd (HP1.o.less (by omega))⟩
  ·have h0:decide ((0:Int)<L)=true:=decide_eq_true (by omega);go_wp2_with fail
   refine(flip_any base g (n+B-1) 2 w1 (HP1.o.stm.less (by omega)) (by omega)).mono ?_
   rintro e w2 ⟨fl,rfl,hE,hS⟩;have HP2:=hd (HP1.o.draw hE hS);have HX2:=hd (ExA.ext hE (fun x hx hp=>HPG.o (List.mem_singleton.1 hx ▸ hp)) HXX.o);clear hE hS;go_wp2_with fail
   go_meet
   exact⟨fl,rfl,fun _=>by omega,HX2,HP2⟩
 case rest=>
  obtain⟨b,rfl,hbL,HX2,HP2⟩:=hcut;clear HP1 HXX;cases b with
  | true=>
   have hL:=hbL rfl;obtain⟨hat,hks,hkd⟩:=HX2.o.all;have HKD:=hd hkd;have qb:=HP2.o.blk.cell;have qbf:=HP2.o.blk.frozen;have qbl:=HP2.o.blk.lt;rw[HAA.o] at qb;have hge:=HP2.o.g0;have hrl:=HP2.o.res.lt;have HC:=hd (cloE_any P N h.A L h.cap ks wc hks HL.o (by omega));clear hks hkd hbL;go_wp2_with fail
   refine HC.o.mono ?_
   rintro e w5 ⟨v,rfl,ho,hE⟩;obtain⟨cA,cc,rfl,-,hnz⟩:=own_form ho;obtain⟨q,rfl,hq0,-⟩:=hnz hL;have HO5:=hd ho;have HP5:=hd (HP2.o.draw hE.nil (HP2.o.stm.ext hE (by simp) (by simp)));have HX5:=hd (fun e he=>ExA.ext hE (by simp) (HKD.o e he));have HA5:=hd (SeqA.ext hat hE (by simp));clear ho hE hnz qb qbf qbl HC HKD;have qb:=HP5.o.blk.cell;have qbf:=HP5.o.blk.frozen;have qbl:=HP5.o.blk.lt;rw[HAA.o] at qb;go_wp2_with fail
   have HE6:Hd (Ext [eb] w5 (w5.setCell ⟨eb,9,none⟩ (.slice (some ⟨q,0,none⟩) L cc))):=hd (Ext.setAt (.inl (by simp)) (Ext.refl _ _));have hqe:q≠eb:=by omega
   have HO6:=hd (own_ext HO5.o HE6.o fun y hy=>by cases hy;rw[List.mem_singleton];exact hqe);have HX6:=hd (fun e he=>ExA.ext HE6.o (fun x hx hp=>by have:=HPB.o x hp;rw[List.mem_singleton.1 hx] at this;omega) (HX5.o e he))
   have HP6:=hd (HP5.o.setH 9 (.slice (some ⟨q,0,none⟩) L cc) {h with A:=some ⟨q,0,none⟩,cap:=cc } ks (by simp[exArr,Ex.h,Ex.ks,HL.o]) (by
    obtain⟨k1,-,k3⟩:=HP5.o.kid.all;have hO9:w5.ownsRow wc.heap.size 41 10 (.slice (some ⟨q,0,none⟩) L cc) ks.length (ks.flatMap exC):=by rw[HL.o];exact HO5.o
    exact .mk _ _ k1 (SeqA.own (P:=fun b=>Q b/\b≠eb/\b≠eb+1/\b≠g) (N:=2*N+40) exC_len hO9 (by rw[HL.o];omega) (by decide) (fun q _ h1 _=>⟨HQ.o q (by have:=HP2.o.eb0;omega),by omega,by omega,by have:=HP2.o.stm.lt;omega⟩)).2 k3))
   refine(next_any base g (n+B-2) L _ (HP6.o.stm.less (by omega)) (by omega)).mono ?_
   rintro e w7 ⟨i,rfl,hi,hE,hS⟩;obtain⟨j,rfl⟩:∃j:Nat,i=j:=⟨i.toNat,by omega⟩;have hj:j<L:=by omega
   have hji:(j:Int)<L:=by omega
   have hqg:q≠g:=by have:=HP2.o.stm.lt;omega
   have hqw:w.heap.size<=q:=by have:=HP2.o.ext.size;omega
   have HP7:=hd (HP6.o.draw hE hS);have HO7:=hd (own_ext HO6.o hE fun y hy=>by cases hy;rw[List.mem_singleton];exact hqg);have hgP:∀x∈[g],¬P x:=fun x hx hp=>HPG.o (List.mem_singleton.1 hx ▸ hp)
   have HX7:=hd (fun e he=>ExA.ext hE hgP (HX6.o e he));have HA7:Hd (AfA P N w7 h.at_):=hd (SeqA.ext (SeqA.ext HA5.o HE6.o (fun x hx hp=>by have:=HPB.o x hp;rw[List.mem_singleton.1 hx] at this;omega)) hE hgP);have HLE:Hd (eb+1<w7.heap.size):=hd HP7.o.res.lt;clear hE hS hi HP2 HP5 HP6 HO5 HO6 HX5 HX6 HE6 HX2 HA5 qb qbf qbl;obtain⟨ch,hch⟩:∃ch,ks[j]? = some ch:=⟨_,List.getElem?_eq_getElem (by rw[HL.o];exact hj)⟩;have HCH:=hd hch;have hcm:=List.mem_of_getElem? hch;have HPC:=hd (partsL_get ks j ch hch);have HPE:Hd (B=60*(1+partsL ks)):=hd (by rw[<-hB,parts]);have HCA:=hd (fun(wr:World) (hE:Ext [g] w7 wr)=>own_elem exC_len (own_ext HO7.o hE fun y hy=>by cases hy;rw[List.mem_singleton];exact hqg) hch)
   have HCC:Hd (∀(wr:World),Ext [g] w7 wr->Stm wr base g (n+60*parts ch)->Calls Tryz.prog 158 #[.pointer (some ⟨g,0,none⟩),.agg (exArr ch)] wr (SpxP (fun b=>P b\/w7.heap.size<=b) (2*N+40) (parts ch+40) base g n wr)):=hd fun wr hE hS=>by
    rw[<-exV_arr];exact HI.o ch hcm P _ N base g n wr (fun b hb=>.inl hb) (fun b hb=>.inr (Nat.le_trans hE.size hb)) (fun b hb=>by have:=HPB.o b hb;have:=HLE.o;have:=hE.size;omega) HPG.o hN (ExA.ext hE hgP (HX7.o ch hcm)) hS
   have HCI:=hd (exHA_info ch.h ch.ks.length);have HCX:Hd (exArr ch=exHA ch.h ch.ks.length):=hd rfl;rw[<-HCX.o] at HCI;clear hcm hch;have HGS:Hd (∀y w w',Ext [g] w w'->(sSx P w7.heap.size (2*N+40) (parts ch+40)).V y w->(sSx P w7.heap.size (2*N+40) (parts ch+40)).V y w'):=hd (sSx.stays HPG.o (by have:=HP7.o.stm.lt;omega));have HBK:=hd (fun(wr:World) (hE:Ext [g] w7 wr)=>HP7.o.blk.ext hE (by rw[List.mem_singleton];have:=HP7.o.g0;have:=HP7.o.eb0;omega));rw[show exArr (.mk {h with A:=some ⟨q,0,none⟩,cap:=cc } ks)=#[.int .i64 h.k,.int .i64 h.op,.int .i64 h.lo,.int .i64 h.hi,.int .i64 h.n,.int .i64 h.m,.int .i64 h.buf,.int .i64 h.at_.base,.slice h.at_.A h.at_.ts.length h.at_.cap,.slice (some ⟨q,0,none⟩) L cc] from by simp[exArr,Ex.h,Ex.ks,HL.o]] at HBK;go_upto_region 4 with fail
   refine rgO 10 9 (60*parts ch) base g n [(9,sSx P w7.heap.size (2*N+40) (parts ch+40))] (by simp[kinds]) (fun oi h=>by cases h;rfl) (Stays.cons HGS.o Stays.nil) (HP7.o.stm.less (by have:=HPC.o;have:=HPE.o;omega)) ?_
   simp only[List.take_succ_cons,List.take_zero,List.drop_succ_cons,List.drop_zero]
   repeat
    refine relAt_detU rfl rfl ?_
    apply Exists.intro
    refine⟨fun wr nr hg hJ=>?_,?_⟩
    ·have qb:=(HBK.o wr hJ.1).cell;have qbf:=(HBK.o wr hJ.1).frozen;have qbl:=(HBK.o wr hJ.1).lt;clear hg;clear hJ;(go_simp;try go_bits)
     first|rfl|exact⟨rfl,rfl⟩
    simp only[Act.put,List.setIfInBounds_toArray,List.set_cons_succ,List.set_cons_zero]
   refine relAt_detU rfl rfl ⟨.agg (exArr ch),fun wr nr hg hJ=>?_,?_⟩
   ·exact exec_load_wide 41 _ rfl q (j*10) rfl (exArr ch) (fun i v hv=>HCA.o wr hJ.1 i v (by rw[exC_arr];exact hv)) _ Tryz.underlying41 rfl HCI.o
   simp only[Act.put,List.setIfInBounds_toArray,List.set_cons_succ,List.set_cons_zero];refine rel_callO (sSx P w7.heap.size (2*N+40) (parts ch+40)) rfl rfl rfl ?_ ?_
   ·apply Exists.intro
    apply Exists.intro
    refine⟨fun wr=>?_,fun wr hE hS hf=>?_⟩
    ·go_simp
     first|exact⟨rfl,rfl⟩|rfl
    ·refine(HCC.o wr hE hS).mono ?_
     rintro e w' ⟨x,rfl,h1,h2,hE',hS'⟩;exact⟨x,rfl,⟨h1,h2⟩,hE',hS'⟩
   intro (x:Ex);simp only[Act.put,List.setIfInBounds_toArray,List.set_cons_succ,List.set_cons_zero];dsimp only[sSx];refine relAt_nilU (fun w8 r hr hJ hF=>?_)
   have hv:(sSx P w7.heap.size (2*N+40) (parts ch+40)).V x w8:=hF 9;have hr9:r 9=false:=by rw[hr 9 (by decide)];rfl
   have hJ2:=hJ.2;rw[hr9] at hJ2;have HP8:=hd (HP7.o.draw hJ.1 hJ2);have HV:=hd hv;have HA8:=hd (SeqA.ext HA7.o hJ.1 hgP);have HX8:=hd (fun e he=>ExA.ext hJ.1 hgP (HX7.o e he));have HO8:=hd (own_ext HO7.o hJ.1 fun y hy=>by have e:q=y:=(by cases hy;rfl);rw[List.mem_singleton];omega);have hqw7:q<w7.heap.size:=(HO7.o.lt q rfl).2;clear hJ hJ2 hF hv hr hr9 HP7 HA7 HX7 HO7 HCA HCC HBK HGS;obtain⟨hO9,cur,hB9,hsz9⟩:=own_set exC_len (by decide) HO8.o HL.o hj x;have HO9:=hd hO9;have HB9:=hd hB9;have HI9:=hd (exHA_info x.h x.ks.length);have HN9:=hd (exHA_one x.h x.ks.length);have HX9:Hd (exArr x=exHA x.h x.ks.length):=hd rfl;rw[<-HX9.o] at HI9 HN9;have HSZ:Hd (j*10+(exArr x).size<=cur.size):=hd hsz9;have HE9:=hd (Ext.many (S:=[q]) (g:=q) (.inl (by simp)) (exC x) (j*10) w8 (Ext.refl _ _));rw[exC_arr] at HO9 HE9;clear hO9 hB9 hsz9
   have hpx:parts (.mk {h with A:=some ⟨q,0,none⟩,cap:=cc } (ks.set j x))<=parts (.mk h ks)+40:=by
    have:=partsL_set x ks j ch HCH.o;have:=HV.o.2;rw[parts,parts];omega
   have HPF:Hd (SpX w Q (2*N+40) base g n (eb+1) eb {h with A:=some ⟨q,0,none⟩,cap:=cc } (ks.set j x) (w8.setCells q (j*10) (exArr x).toList)):=hd (by
    have h0:=HP8.o.g0;have h1:=HP8.o.eb0;have h2:=HP8.o.ebr;have h3:=HP8.o.bg;have hl7:=HLE.o;have hto:∀b,P b->Q b/\b≠eb/\b≠eb+1/\b≠g:=fun b hb=>⟨HPQ.o b hb,by have:=HPB.o b hb;omega,by have:=HPB.o b hb;omega,fun e=>HPG.o (e ▸ hb)⟩
    have hqP:∀x∈[q],¬P x:=fun x hx hp=>by have:=HPB.o x hp;rw[List.mem_singleton.1 hx] at this;omega
    refine⟨HP8.o.ext.step HE9.o fun y hy=>.inr (by rw[List.mem_singleton.1 hy];exact hqw),HP8.o.stm.ext HE9.o (by rw[List.mem_singleton];omega) (fun y hy=>by rw[List.mem_singleton.1 hy];omega),HP8.o.res.ext HE9.o (by rw[List.mem_singleton];omega),?_,?_,h1,h2,h0,h3⟩
    ·have e:exArr (.mk {h with A:=some ⟨q,0,none⟩,cap:=cc } (ks.set j x))=exArr (.mk {h with A:=some ⟨q,0,none⟩,cap:=cc } ks):=by simp[exArr,Ex.h,Ex.ks]
     rw[e];exact HP8.o.blk.ext HE9.o (by rw[List.mem_singleton];omega)
    ·have hO:(w8.setCells q (j*10) (exArr x).toList).ownsRow wc.heap.size 41 10 (.slice (some ⟨q,0,none⟩) L cc) (ks.set j x).length ((ks.set j x).flatMap exC):=by rw[List.length_set,HL.o];exact HO9.o
     refine .mk _ _ (SeqA.mono (SeqA.ext HA8.o HE9.o hqP) (fun b _ hb=>hto b hb) (by omega)) (SeqA.own (P:=fun b=>Q b/\b≠eb/\b≠eb+1/\b≠g) (N:=2*N+40) exC_len hO (by rw[List.length_set,HL.o];omega) (by decide) (fun q' hq' _ _=>by cases hq';exact⟨HQ.o q (by omega),by omega,by omega,by omega⟩)).2 fun e he=>?_
     rcases List.mem_or_eq_of_mem_set he with he|rfl
     ·exact ExA.mono (fun b _ hb=>hto b hb) (by omega) (ExA.ext HE9.o hqP (HX8.o e he))
     ·refine ExA.mono (fun b _ hb=>?_) (Nat.le_refl _) (ExA.ext HE9.o (fun y hy hh=>?_) HV.o.1)
      ·rcases hb with hb|hb
       ·exact hto b hb
       ·exact⟨HQ.o b (by omega),by omega,by omega,by omega⟩
      ·rw[List.mem_singleton.1 hy] at hh;rcases hh with hh|hh
       ·exact hqP q (by simp) hh
       ·omega)
   clear HO9 HE9 HA8 HX8;have hxv:exV x=.agg (exArr x):=exV_arr x;rw[hxv];generalize exArr x=xe at *;have ql8:q<w8.heap.size:=(HO8.o.lt q rfl).2;go_upto_region 5 with(refine wpList_skip_run rfl (w8.setCells q (j*10) xe.toList) (exec_store_mid rfl _ w8 q (j*10) xe cur 41 rfl rfl HB9.o HSZ.o HI9.o HN9.o) ?_)
   generalize World.setCells w8 _ _ _=w9 at *;clear HP8 HB9 HO8;have hp:=hpx;have HPF2:=HPF;clear HPF;generalize EH.mk h.k h.op h.lo h.hi h.n h.m h.buf h.at_ (some ⟨q,0,none⟩) cc=hF' at *;generalize ks.set j x=kF' at *;have HPF:=HPF2;have HIN:=hd (exHA_info hF' kF'.length);have HON:=hd (exHA_one hF' kF'.length);have HSZ:=hd (exHA_size hF' kF'.length);have HBE:Hd (Blk w9 eb 41 (exHA hF' kF'.length)):=hd HPF.o.blk;have HRE:=hd HPF.o.res;have HXV:Hd (exV (.mk hF' kF')=.agg (exHA hF' kF'.length)):=hd (exV_arr _);generalize exHA hF' kF'.length=xa at *;have hrl:=HPF.o.res.lt
   go_wp2_with (first
    | refine wpList_load_wide rfl 41 _ rfl eb 0 rfl xa HBE.o.wide _ Tryz.underlying41 rfl HIN.o ?_
    | (
      refine wpList_store_wide rfl 41 _ _ rfl (eb+1) xa zEx 41 rfl rfl HRE.o HIN.o HSZ.o HON.o ?_
      intro wf hBF hEF;have HBF:=hd hBF;have HEF:=hd hEF;clear hBF hEF))
   refine bodyPost_ret (results_cell_row rfl _ _ (eb+1) 41 _ (0,0) _ rfl HBF.o Tryz.underlying41 rfl HIN.o) rfl ?_
   rw[<-HXV.o];have h1:=HPF.o.g0;have h2:=HPF.o.eb0;have h3:=HPF.o.bg;exact⟨.mk hF' kF',rfl,ExA.mono (fun b _ hb=>hb.1) (Nat.le_refl _) (ExA.ext HEF.o (fun x hx hp=>hp.2.2.1 (List.mem_singleton.1 hx)) HPF.o.kid),hp,HPF.o.ext.step HEF.o (fun x hx=>.inr (by rw[List.mem_singleton.1 hx];omega)),HPF.o.stm.ext HEF.o (by rw[List.mem_singleton];omega) (fun x hx=>by rw[List.mem_singleton.1 hx];omega)⟩
  | false=>
   go_upto_block 0 with fail
   refine(next_any base g (n+B-2) 9 wc (HP2.o.stm.less (by omega)) (by omega)).mono ?_
   rintro e w4 ⟨r,rfl,hr,hE,hS⟩;have HP4:=hd (HP2.o.draw hE hS);have HX4:=hd (ExA.ext hE (fun x hx hp=>HPG.o (List.mem_singleton.1 hx ▸ hp)) HX2.o);have hr9:r=0\/r=1\/r=2\/r=3\/r=4\/r=5\/r=6\/r=7\/r=8:=by omega
   clear hE hS hr HP2 HX2;go_upto_block 0 with fail
   go_cut [] (fun wx=>∃(h':EH) (ks':List Ex),parts (.mk h' ks')<=parts (.mk h ks)+40/\Hd (SpX w Q (2*N+40) base g n (eb+1) eb h' ks' wx))
   case first=>
    have qb:=HP4.o.blk.cell;have qbf:=HP4.o.blk.frozen;have qbl:=HP4.o.blk.lt;have hgl:g<w4.heap.size:=HP4.o.stm.lt;rw[HAA.o] at qb;rcases hr9 with rfl|rfl|rfl|rfl|rfl|rfl|rfl|rfl|rfl
    ·
     go_wp2_with fail
     refine(range_any base g (n+40) 0 6 w4 (HP4.o.stm.less (by omega)) (by omega) (by omega)).mono ?_
     rintro e w6 ⟨y,rfl,-,hE,hS⟩;have HP6:=hd (HP4.o.draw hE hS);clear qb qbf qbl hE hS;have qb:=HP6.o.blk.cell;have qbf:=HP6.o.blk.frozen;have qbl:=HP6.o.blk.lt;rw[HAA.o] at qb;have HP7:=hd (HP6.o.plain 0 (.int .i64 y) {h with k:=y } rfl rfl rfl);go_wp2_with fail
     go_meet
     exact⟨_,_,by simp[parts],hd (HP7.o.less (by omega))⟩
    ·
     go_wp2_with fail
     refine(range_any base g (n+40) 3 16 w4 (HP4.o.stm.less (by omega)) (by omega) (by omega)).mono ?_
     rintro e w6 ⟨y,rfl,-,hE,hS⟩;have HP6:=hd (HP4.o.draw hE hS);clear qb qbf qbl hE hS;have qb:=HP6.o.blk.cell;have qbf:=HP6.o.blk.frozen;have qbl:=HP6.o.blk.lt;rw[HAA.o] at qb;have HP7:=hd (HP6.o.plain 1 (.int .i64 y) {h with op:=y } rfl rfl rfl);go_wp2_with fail
     go_meet
     exact⟨_,_,by simp[parts],hd (HP7.o.less (by omega))⟩
    ·
     have HN:=hd (Blk.new w4 3 (Nums [0,5,2147483648,-1]));have hE5:Ext [] w4 (w4.alloc (.cells (Nums [0,5,2147483648,-1]) 3)):=(Ext.refl _ _).alloc _;have HP5:=hd (HP4.o.draw hE5.nil (HP4.o.stm.ext hE5 (by simp) (by simp)));clear hE5;simp only[Nums,List.map_cons,List.map_nil] at HN HP5;go_wp2_with fail
     refine(pick_any base g (n+40) w4.heap.size 4 3 [0,5,2147483648,-1] _ (HP5.o.stm.less (by omega)) HN.o (by omega) (by decide)).mono ?_
     rintro e w6 ⟨y,rfl,-,hE,hS⟩;have HP6:=hd (HP5.o.draw hE hS);clear qb qbf qbl hE hS HN HP5 hgl HP4 HX4;have hgl:g<w6.heap.size:=HP6.o.stm.lt;have HN:=hd (Blk.new w6 3 (Nums [0,3,2147483648]));have hE5:Ext [] w6 (w6.alloc (.cells (Nums [0,3,2147483648]) 3)):=(Ext.refl _ _).alloc _;have HP7:=hd (HP6.o.draw hE5.nil (HP6.o.stm.ext hE5 (by simp) (by simp)));clear hE5;simp only[Nums,List.map_cons,List.map_nil] at HN HP7;go_wp2_with fail
     refine(pick_any base g (n+30) w6.heap.size 3 3 [0,3,2147483648] _ (HP7.o.stm.less (by omega)) HN.o (by omega) (by decide)).mono ?_
     rintro e w8 ⟨z,rfl,-,hE,hS⟩;have HP8:=hd (HP7.o.draw hE hS);clear hE hS HN HP7 HP6 hgl;have qb:=HP8.o.blk.cell;have qbf:=HP8.o.blk.frozen;have qbl:=HP8.o.blk.lt;rw[HAA.o] at qb;have HP9:=hd ((HP8.o.plain 2 (.int .i64 y) {h with lo:=y } rfl rfl rfl).plain 3 (.int .i64 z) {h with lo:=y,hi:=z } rfl rfl rfl);go_wp2_with fail
     go_meet
     exact⟨_,_,by simp[parts],hd (HP9.o.less (by omega))⟩
    ·
     have HN:=hd (Blk.new w4 3 (Nums [0,31,32,2147483648,100001,-1]));have hE5:Ext [] w4 (w4.alloc (.cells (Nums [0,31,32,2147483648,100001,-1]) 3)):=(Ext.refl _ _).alloc _;have HP5:=hd (HP4.o.draw hE5.nil (HP4.o.stm.ext hE5 (by simp) (by simp)));clear hE5;simp only[Nums,List.map_cons,List.map_nil] at HN HP5;go_wp2_with fail
     refine(pick_any base g (n+40) w4.heap.size 6 3 [0,31,32,2147483648,100001,-1] _ (HP5.o.stm.less (by omega)) HN.o (by omega) (by decide)).mono ?_
     rintro e w6 ⟨y,rfl,-,hE,hS⟩;have HP6:=hd (HP5.o.draw hE hS);clear qb qbf qbl hE hS;have qb:=HP6.o.blk.cell;have qbf:=HP6.o.blk.frozen;have qbl:=HP6.o.blk.lt;rw[HAA.o] at qb;have HP7:=hd (HP6.o.plain 4 (.int .i64 y) {h with n:=y } rfl rfl rfl);go_wp2_with fail
     go_meet
     exact⟨_,_,by simp[parts],hd (HP7.o.less (by omega))⟩
    ·
     have HN:=hd (Blk.new w4 3 (Nums [0,1,262145,20]));have hE5:Ext [] w4 (w4.alloc (.cells (Nums [0,1,262145,20]) 3)):=(Ext.refl _ _).alloc _;have HP5:=hd (HP4.o.draw hE5.nil (HP4.o.stm.ext hE5 (by simp) (by simp)));clear hE5;simp only[Nums,List.map_cons,List.map_nil] at HN HP5;go_wp2_with fail
     refine(pick_any base g (n+40) w4.heap.size 4 3 [0,1,262145,20] _ (HP5.o.stm.less (by omega)) HN.o (by omega) (by decide)).mono ?_
     rintro e w6 ⟨y,rfl,-,hE,hS⟩;have HP6:=hd (HP5.o.draw hE hS);clear qb qbf qbl hE hS;have qb:=HP6.o.blk.cell;have qbf:=HP6.o.blk.frozen;have qbl:=HP6.o.blk.lt;rw[HAA.o] at qb;have HP7:=hd (HP6.o.plain 5 (.int .i64 y) {h with m:=y } rfl rfl rfl);go_wp2_with fail
     go_meet
     exact⟨_,_,by simp[parts],hd (HP7.o.less (by omega))⟩
    ·
     go_wp2_with fail
     refine(range_any base g (n+40) (-1) 6 w4 (HP4.o.stm.less (by omega)) (by omega) (by omega)).mono ?_
     rintro e w6 ⟨y,rfl,-,hE,hS⟩;have HP6:=hd (HP4.o.draw hE hS);clear qb qbf qbl hE hS;have qb:=HP6.o.blk.cell;have qbf:=HP6.o.blk.frozen;have qbl:=HP6.o.blk.lt;rw[HAA.o] at qb;have HP7:=hd (HP6.o.plain 6 (.int .i64 y) {h with buf:=y } rfl rfl rfl);go_wp2_with fail
     go_meet
     exact⟨_,_,by simp[parts],hd (HP7.o.less (by omega))⟩
    ·
     obtain⟨-,hks,-⟩:=HX4.o.all;have hrl:=HP4.o.res.lt;have hge:=HP4.o.g0;have hee:=HP4.o.eb0;have HLN:Hd (L<=1000):=hd (by omega);have HC:=hd (cloE_any P N h.A L h.cap ks w4 hks HL.o (by omega));clear hks;go_wp2_with fail
     refine HC.o.mono ?_
     rintro e w5 ⟨v,rfl,ho,hE⟩;obtain⟨cA,cc,rfl,-,-⟩:=own_form ho;generalize hH4:w4.heap.size=H4 at *;have HE6:=hd (hE.alloc (.cells (exArr exK1) 41));have HO6:=hd (own_ext ho ((Ext.refl [] w5).alloc (.cells (exArr exK1) 41)) (by simp));have HK1:=hd (Blk.new w5 41 (exArr exK1));have HH6:Hd (H4<=(w5.alloc (.cells (exArr exK1) 41)).heap.size):=hd (by have:=HE6.o.size;omega);have HP6:=hd (HP4.o.draw HE6.o.nil (HP4.o.stm.ext HE6.o (by simp) (by simp)));clear ho hE qb qbf qbl HC hgl;obtain⟨i0,hi0,hz0,hz1,hz2⟩:=exInfo
     go_wp2_with (first
      | refine wpList_op_run rfl (.agg (exArr exK1)) w5 (exec_built 41 _ rfl _ exK1_built) ?_
      | (
        refine wpList_op_run rfl (.slice (some ⟨w5.heap.size,0,none⟩) 1 1) (w5.alloc (.cells (exArr exK1) 41)) ?rr ?_
        case rr=>
         refine exec_buildSlice rfl _ w5 _ _ (exV exK1) ?_ ?_
         ·rfl
         ·exact ex1_slice w5 exK1)
      | (
        refine wpList_append_lies _ rfl _ _ 39 rfl H4 41 i0 _ 10 112 Tryz.underlying39 hi0 hz0 hz1 hz2 rfl (by decide) (.slice cA L cc) L (ks.flatMap exC) rfl HO6.o ⟨w5.heap.size,0,none⟩ 1 1 (exC exK1) rfl rfl ?c1 (exC_one _) (by omega) ?c3 ?c4 HH6.o _ rfl ?_
        case c1=>intro j v hj;rw[Addr.add_mk,Nat.zero_add,HK1.o.cell,<-Array.getElem?_toList,<-exC_arr];exact hj
        case c3=>have:=HLN.o;unfold maxLen;omega
        case c4=>have:=HLN.o;omega
        intro g8 c8 w8 ho8 hg8 hi8 ha8;have HO8:=hd ho8;have HE8:Hd (Ext [] w4 w8):=hd (HE6.o.step ((Ext.refl _ _).grown hg8 fun q hq=>.inl (Option.mem_toList.2 hq)) fun q hq=>.inr (by rw[hH4];exact own_base HO6.o q (Option.mem_toList.1 hq)));have HP8:=hd (HP4.o.draw HE8.o.nil (HP4.o.stm.ext HE8.o (by simp) (by simp)));have qb:=HP8.o.blk.cell;have qbf:=HP8.o.blk.frozen;have qbl:=HP8.o.blk.lt;rw[HAA.o] at qb;clear ho8 hg8 hi8 ha8))
     have hfl:(ks ++ [exK1]).flatMap exC=ks.flatMap exC ++ exC exK1:=by rw[List.flatMap_append];simp
     have hln1:(ks ++ [exK1]).length=L+1:=by rw[List.length_append,List.length_singleton,HL.o]
     have hO9:w8.ownsRow H4 41 10 (.slice (some ⟨g8,0,none⟩) (L+1) c8) (ks ++ [exK1]).length ((ks ++ [exK1]).flatMap exC):=by
      rw[hfl,hln1];exact HO8.o
     have hQ8:SeqA (fun b=>Q b/\b≠eb/\b≠eb+1/\b≠g) (2*N+40) w8 (some ⟨g8,0,none⟩) 10 exC (ks ++ [exK1]):=
      (SeqA.own (P:=fun b=>Q b/\b≠eb/\b≠eb+1/\b≠g) (N:=2*N+40) exC_len hO9 (by rw[hln1];omega) (by decide) (fun q _ h1 _=>⟨HQ.o q (by omega),by omega,by omega,by omega⟩)).2
     have HP9:=hd (HP8.o.setH 9 (.slice (some ⟨g8,0,none⟩) (L+1) c8) {h with A:=some ⟨g8,0,none⟩,cap:=c8 } (ks ++ [exK1]) (by simp[exArr,Ex.h,Ex.ks,HL.o]) (by
      obtain⟨k1,-,k3⟩:=HP8.o.kid.all;refine .mk _ _ k1 hQ8 fun e he=>?_
      rcases List.mem_append.1 he with he|he
      ·exact k3 e he
      ·rw[List.mem_singleton.1 he];exact exK1_A _ _ _))
     have e1:parts exK1=1:=by simp[exK1,parts,partsL]
     have hpp:parts (.mk {h with A:=some ⟨g8,0,none⟩,cap:=c8 } (ks ++ [exK1]))<=parts (.mk h ks)+40:=by rw[parts,parts,partsL_snoc,e1];omega
     go_meet
     exact⟨_,_,hpp,hd (HP9.o.less (by omega))⟩
    ·
     have HN:=hd (Blk.new w4 3 (Nums [5,6,7,33]));have hE5:Ext [] w4 (w4.alloc (.cells (Nums [5,6,7,33]) 3)):=(Ext.refl _ _).alloc _;have HP5:=hd (HP4.o.draw hE5.nil (HP4.o.stm.ext hE5 (by simp) (by simp)));clear hE5;simp only[Nums,List.map_cons,List.map_nil] at HN HP5;go_wp2_with fail
     refine(pick_any base g (n+40) w4.heap.size 4 3 [5,6,7,33] _ (HP5.o.stm.less (by omega)) HN.o (by omega) (by decide)).mono ?_
     rintro e w6 ⟨y,rfl,hy,hE,hS⟩;have HP6:=hd (HP5.o.draw hE hS);have hy33:0<=y/\y<=33:=by simp at hy;omega
     obtain⟨cnt,rfl⟩:∃k:Nat,y=k:=⟨y.toNat,by omega⟩;clear hE hS HN HP5 hgl HP4 HX4 hy qb qbf qbl;go_wp2_with fail
     go_loopw [93] (fun i wr=>∃(k:Nat) (h':EH) (ks':List Ex),i=.int .i64 k/\k<=cnt/\parts (.mk h' ks')<=parts (.mk h ks)+k/\Hd (SpX w Q (2*N+40) base g n (eb+1) eb h' ks' wr)) (fun i _=>(cnt-intOf i).toNat)
     case atStart=>exact⟨0,h,ks,rfl,Nat.zero_le _,by omega,hd (HP6.o.less (by omega))⟩
     case round=>
      obtain⟨k,h',ks',rfl,hk,hp,HPR⟩:=hrel;by_cases hlt:k<cnt
      ·have hlti:(k:Int)<cnt:=by omega
       have HIN:=hd (exHA_info h' ks'.length);have HBE:=hd HPR.o.blk;have HXV:=hd (exV_arr (.mk h' ks'));have HI2:Hd ((Tryz.prog.info? 41).map (·.size)=some (exArr (exNs wr.heap.size (.mk h' ks'))).size):=hd (exHA_info _ 1);have HO2:Hd ((exArr (exNs wr.heap.size (.mk h' ks'))).all (·.oneCell')=true):=hd (exHA_one _ 1);have HBX:=hd (Blk.new wr 41 (exArr (.mk h' ks')));have HEX:Hd (Ext [] wr (wr.alloc (.cells (exArr (.mk h' ks')) 41))):=hd ((Ext.refl _ _).alloc _);have HPX:=hd (HPR.o.draw HEX.o.nil (HPR.o.stm.ext HEX.o (by simp) (by simp)));have HRL:=hd (And.intro HPR.o.res.lt (And.intro HPR.o.eb0 HPR.o.ebr))
       go_wp2_with (first
        | refine wpList_load_wide rfl 41 _ rfl eb 0 rfl (exArr (.mk h' ks')) HBE.o.wide _ Tryz.underlying41 rfl HIN.o ?_
        | (
          refine wpList_op_run rfl (.slice (some ⟨wr.heap.size,0,none⟩) 1 1) (wr.alloc (.cells (exArr (.mk h' ks')) 41)) ?rr ?_
          case rr=>
           refine exec_buildSlice rfl _ wr _ _ (exV (.mk h' ks')) ?_ ?_
           ·rfl
           ·exact ex1_slice wr (.mk h' ks'))
        | refine wpList_op_run rfl (.agg (exArr (exNs wr.heap.size (.mk h' ks')))) _ (exec_built 41 _ rfl _ (exNs_built wr.heap.size (.mk h' ks'))) ?_
        | (
          refine wpList_store_wide rfl 41 _ _ rfl eb (exArr (exNs wr.heap.size (.mk h' ks'))) (exArr (.mk h' ks')) 41 rfl rfl HPX.o.blk HI2.o rfl HO2.o ?_
          intro w8 hB8 hE8;have HB8:=hd hB8;have HE8:=hd hE8;clear hB8 hE8))
       have HP9:=hd (SpX.nest HPR.o (b:=wr.heap.size) (by omega) (fun b hb=>HQ.o b (by have:=HRL.o;omega)) (Nat.le_refl _) (HEX.o.nil.trans HE8.o) HB8.o (HBX.o.ext HE8.o (by have:=HRL.o;rw[List.mem_singleton];omega)));go_roundw
       case rel=>exact⟨k+1,_,_,by go_num,by omega,by simp only[parts,partsL] at hp⊢;omega,HP9⟩
       case measure=>simp[intOf];omega
      ·have hlti:¬(k:Int)<cnt:=by omega
       go_wp2_with fail
       go_meet
       exact⟨_,_,by omega,HPR⟩
    ·
     have ha:=HX4.o.all.1;have hrl:=HP4.o.res.lt;have hge:=HP4.o.g0;have hee:=HP4.o.eb0;have HC:=hd (spAf_any P N base g (n+10) h.at_ w4 (HP4.o.stm.less (by omega)) ha (by omega));clear ha;unfold afV at HC;go_wp2_with fail
     refine HC.o.mono ?_
     rintro e w6 ⟨a',rfl,ha',hE,hS⟩;have HP6:=hd (HP4.o.draw hE hS);have HA6:Hd (AfA (fun b=>Q b/\b≠eb/\b≠eb+1/\b≠g) (2*N+40) w6 a'):=hd (SeqA.mono ha' (fun b _ hb=>⟨HQ.o b (by omega),by omega,by omega,by omega⟩) (by omega));clear qb qbf qbl hE hS ha' HC hrl;have qb:=HP6.o.blk.cell;have qbf:=HP6.o.blk.frozen;have qbl:=HP6.o.blk.lt;rw[HAA.o] at qb
     have HP7:=hd (HP6.o.setH 7 (.int .i64 a'.base) {h with at_:={h.at_ with base:=a'.base } } ks rfl (by
      obtain⟨k1,k2,k3⟩:=HP6.o.kid.all;exact .mk _ _ k1 k2 k3))
     have HP8:=hd (HP7.o.setH 8 (.slice a'.A a'.ts.length a'.cap) {h with at_:=a' } ks rfl (by
      obtain⟨k1,k2,k3⟩:=HP7.o.kid.all;exact .mk _ _ (SeqA.ext HA6.o (Ext.setAt (S:=[eb]) (.inl (by simp)) (Ext.refl _ _)) (fun x hx hp=>hp.2.1 (List.mem_singleton.1 hx))) k2 k3))
     go_wp2_with fail
     go_meet
     exact⟨_,_,by simp[parts],hd (HP8.o.less (by omega))⟩
   case rest=>
    obtain⟨h',ks',hp,HP9⟩:=hcut;clear HP4 HX4;have HIN:=hd (exHA_info h' ks'.length);have HON:=hd (exHA_one h' ks'.length);have HSZ:=hd (exHA_size h' ks'.length);have HBE:Hd (Blk wc eb 41 (exHA h' ks'.length)):=hd HP9.o.blk;have HRE:=hd HP9.o.res;have HXV:Hd (exV (.mk h' ks')=.agg (exHA h' ks'.length)):=hd (exV_arr _);generalize exHA h' ks'.length=xa at *;have hrl:=HP9.o.res.lt
    go_wp2_with (first
     | refine wpList_load_wide rfl 41 _ rfl eb 0 rfl xa HBE.o.wide _ Tryz.underlying41 rfl HIN.o ?_
     | (
       refine wpList_store_wide rfl 41 _ _ rfl (eb+1) xa zEx 41 rfl rfl HRE.o HIN.o HSZ.o HON.o ?_
       intro w8 hB8 hE8;have HB8:=hd hB8;have HE8:=hd hE8;clear hB8 hE8))
    refine bodyPost_ret (results_cell_row rfl _ _ (eb+1) 41 _ (0,0) _ rfl HB8.o Tryz.underlying41 rfl HIN.o) rfl ?_
    rw[<-HXV.o];have h1:=HP9.o.g0;have h2:=HP9.o.eb0;have h3:=HP9.o.bg;exact⟨.mk h' ks',rfl,ExA.mono (fun b _ hb=>hb.1) (Nat.le_refl _) (ExA.ext HE8.o (fun x hx hp=>hp.2.2.1 (List.mem_singleton.1 hx)) HP9.o.kid),hp,HP9.o.ext.step HE8.o (fun x hx=>.inr (by rw[List.mem_singleton.1 hx];omega)),HP9.o.stm.ext HE8.o (by rw[List.mem_singleton];omega) (fun x hx=>by rw[List.mem_singleton.1 hx];omega)⟩
theorem spx_any:∀e,SpxC e:=ex_ind spx_step
def stNw (k:Int):St:=.mk ⟨k,⟨#[]⟩,0,0,0,false,none,0,[],none,0,0,afZ,.mk exZ []⟩ []
theorem stNw_built (k:Int):Tryz.prog.built 43 [(0,.int .i64 k)]=some (stA (stNw k)):=by kernel_rfl
theorem stNw_A (k:Int)(P:Nat->Prop){M:Nat}(hM:1<=M)(w:World):StA P M w (stNw k):=
 .mk _ _ (SeqA.nil ..) (fun a h=>by cases h) (SeqA.nil ..) (.mk _ _ (SeqA.nil ..) (SeqA.nil ..) (fun e h=>by cases h)) (by show parts (.mk exZ [])<=M;simp[parts,partsL];exact hM) (by show(⟨#[]⟩:ByteArray).size<=M;exact Nat.le_trans (by decide) hM) hM (SeqA.nil ..) (fun s h=>by cases h)
def afNw (k:Int):Af:=⟨k,none,0,[]⟩
theorem afNw_built (k:Int):Tryz.prog.built 38 [(0,.int .i64 k)]=some #[.int .i64 k,.slice none 0 0]:=by kernel_rfl
theorem af_slice (w:World)(k:Int):(Instr.buildSlice 35 1 #[(0,.agg #[.int .i64 k,.slice none 0 0])]).run Tryz.prog w=.ok (.slice (some ⟨w.heap.size,0,none⟩) 1 1) (w.alloc (.cells #[.int .i64 k,.slice none 0 0] 38)):=by
 obtain⟨i0,hi0,hz0,hz1,hz2⟩:=afInfo;refine run_buildSlice w _ _ 1 _ _ i0 _ Tryz.underlying35 hi0 hz0 (by rw[hz1];decide) (by rw[hz1];decide) ?_
 rw[hz1];have hz:((Array.range (1*2)).map (fun x=>(Value.agg #[.int .i64 0,.slice none 0 0]).cells[x % (Value.agg #[.int .i64 0,.slice none 0 0]).cells.size]!))=#[.int .i64 0,.slice none 0 0]:=by kernel_rfl
 rw[hz];simp[Instr.fill,Value.cells]
def nmsA:Array Value:=#[.string ⟨#[]⟩,.string ⟨#[105]⟩,.string ⟨#[73]⟩,.string ⟨#[97,98,99,100,101,102,103,104,105]⟩,.string ⟨#[106]⟩]
theorem nmsA_get (r:Nat)(hr:r<5):∃s:ByteArray,s.size<=10/\nmsA[r]? = some (.string s):=by
 have h:r=0\/r=1\/r=2\/r=3\/r=4:=by omega
 rcases h with rfl|rfl|rfl|rfl|rfl<;>exact⟨_,by decide,rfl⟩
theorem stC_val (h:SH)(b:List St):stC (.mk h b)=[.int .i64 h.k,.string h.var,.int .i64 h.lo,.int .i64 h.hi,.int .i64 h.step,.bool h.vec,.slice h.cA h.conds.length h.cc,.slice h.A b.length h.cap,.int .i64 h.buf,.int .i64 h.at_.base,.slice h.at_.A h.at_.ts.length h.at_.cap] ++ (exArr h.val).toList:=rfl
set_option maxHeartbeats 16000000 in
set_option maxRecDepth 100000 in
theorem spb_step (ss:List St)(ih:∀s∈ss,SpbC s.body):SpbC ss:=by
 intro P Q R N base g n w A c hPQ hQ hPB hPg hR hN hA hK hS;have HS:=hd hS;have hg:=hS.lt;have hbg:=hS.base;have HI:=hd ih;have HPQ:=hd hPQ;have HQ:=hd hQ;have HPG:=hd hPg;have HPB:=hd hPB;have hln:ss.length<=R:=hA.1;have HC:=hd (cloS_any P R A ss.length c ss w hA rfl (by omega));have HK:=hd hK;clear hS ih hPQ hQ hPg hPB hA hK;generalize hl:ss.length=L at *;have HL:=hd hl;clear hl;go_enter Tryz.func106,Tryz.ntmps106
 go_wp2_with fail
 refine HC.o.mono ?_
 rintro e w1 ⟨v,rfl,ho,hE⟩;obtain⟨cA,cc,rfl,-,hnz⟩:=own_form ho;have HE1:=hd hE;have HO1:=hd ho;have HS1:=hd (HS.o.ext hE (by simp) (by simp));have HK1:=hd (fun s hs=>StA.ext hE (by simp) (HK.o s hs));have HH1:=hd hE.size;clear hE ho HC HS HK;by_cases hL:L=0
 ·
  subst hL;have hss:ss=[]:=List.length_eq_zero_iff.1 HL.o;subst hss;go_wp2_with fail
  refine(range_any base g (n+900) 0 4 w1 (HS1.o.less (by omega)) (by omega) (by omega)).mono ?_
  rintro e w2 ⟨y,rfl,-,hE,hS⟩;have hgw:g<w1.heap.size:=HS1.o.lt;have HE2:=hd (HE1.o.nil.trans hE);have HO2:=hd (own_ext HO1.o hE fun q hq=>by have:=own_base HO1.o q hq;rw[List.mem_singleton];omega);have HS2:=hd hS;have HE3:=hd ((Ext.refl [] w2).alloc (.cells (stA (stNw y)) 43));have HO3:=hd (own_ext HO2.o HE3.o (by simp));have HB3:=hd (Blk.new w2 43 (stA (stNw y)));have HS3:=hd (HS2.o.ext HE3.o (by simp) (by simp));have HH3:Hd (w.heap.size<=(w2.alloc (.cells (stA (stNw y)) 43)).heap.size):=hd (Nat.le_trans HE2.o.size HE3.o.size);clear hE hS;obtain⟨i0,hi0,hz0,hz1,hz2⟩:=stxInfo
  go_wp2_with (first
   | refine wpList_op_run rfl (.agg (stA (stNw y))) w2 (exec_built 43 _ rfl _ (stNw_built y)) ?_
   | (
     refine wpList_op_run rfl (.slice (some ⟨w2.heap.size,0,none⟩) 1 1) (w2.alloc (.cells (stA (stNw y)) 43)) ?rr ?_
     case rr=>
      refine exec_buildSlice rfl _ w2 _ _ (.agg (stA (stNw y))) ?_ ?_
      ·rfl
      ·exact st1_sliceA w2 (stNw y))
   | (
     refine wpList_append_lies _ rfl _ _ 27 rfl w.heap.size 43 i0 _ 21 256 Tryz.underlying27 hi0 hz0 hz1 hz2 rfl (by decide) (.slice cA 0 cc) 0 [] rfl HO3.o ⟨w2.heap.size,0,none⟩ 1 1 (stC (stNw y)) rfl (stC_len _) ?c1 (stC_one _) (by omega) ?c3 ?c4 HH3.o _ rfl ?_
     case c1=>intro j v hj;rw[Addr.add_mk,Nat.zero_add,HB3.o.cell,<-Array.getElem?_toList,<-stC_arr];exact hj
     case c3=>unfold maxLen;omega
     case c4=>omega
     intro g8 c8 w8 ho8 hg8 hi8 ha8;have HX8:=hd (And.intro ho8 hg8);clear ho8 hg8 hi8 ha8))
  go_ret
  obtain⟨ho8,hg8⟩:=HX8.o;rw[List.nil_append] at ho8;have hX:Ext (Value.slice cA 0 cc).ownBlock.toList w2 w8:=(HE3.o.nil).step ((Ext.refl _ _).grown hg8 fun q hq=>.inl (Option.mem_toList.2 hq)) fun x hx=>.inl hx
  have hqb:∀q∈(Value.slice cA 0 cc).ownBlock.toList,w.heap.size<=q:=fun q hq=>own_base HO3.o q (Option.mem_toList.1 hq)
  have hO9:w8.ownsRow w.heap.size 43 21 (.slice (some ⟨g8,0,none⟩) 1 c8) [stNw y].length ([stNw y].flatMap stC):=by simpa using ho8
  refine⟨_,_,[stNw y],rfl,(SeqA.own (P:=Q) (N:=2*R+40) stC_len hO9 (by simp) (by decide) (fun q _ h1 _=>HQ.o q h1)).2,fun s hs=>?_,HE2.o.step hX fun q hq=>.inr (hqb q hq),HS2.o.ext hX (fun hm=>by have:=hqb _ hm;omega) (fun q hq=>by have:=hqb q hq;omega) |>.less (by omega)⟩
  rw[List.mem_singleton.1 hs];exact stNw_A y Q (by omega) w8
 ·obtain⟨q,rfl,hq0,hqw⟩:=hnz (by omega);have hz:((L:Int)==0)=false:=by simpa using hL
  have hqg:q≠g:=by omega
  have HP1:Hd (SpS w Q (2*N+40) base g (n+1000*N+1000) q cc ss w1):=hd ⟨HE1.o.nil,HS1.o,by rw[HL.o];exact HO1.o,fun s hs=>StA.mono (fun b _ hb=>⟨HPQ.o b hb,fun e=>by have:=HPB.o b hb;omega,fun e=>HPG.o (e ▸ hb)⟩) (by omega) (HK1.o s hs),hq0,hg,hbg⟩;clear HE1 HO1 HS1 hnz;go_wp2_with fail
  refine(next_any base g (n+1000*N+999) L w1 (HP1.o.stm.less (by omega)) (by omega)).mono ?_
  rintro e w2 ⟨i,rfl,hi,hE,hS⟩;obtain⟨j,rfl⟩:∃j:Nat,i=j:=⟨i.toNat,by omega⟩;have hj:j<L:=by omega
  have hji:(j:Int)<L:=by omega
  obtain⟨y,hy⟩:∃y,ss[j]? = some y:=⟨_,List.getElem?_eq_getElem (by rw[HL.o];exact hj)⟩;obtain⟨h,b⟩:=y;have HP2:=hd (HP1.o.draw hE hS);have HY2:=hd (StA.ext hE (fun x hx hp=>HPG.o (List.mem_singleton.1 hx ▸ hp)) (HK1.o _ (List.mem_of_getElem? hy)));have HIY:=hd (HI.o _ (List.mem_of_getElem? hy));have HYJ:=hd hy;clear hE hS hi HP1 HK1 HI hy;have c7:=HP2.o.cell HYJ.o 7 _ rfl;have qf:=HP2.o.frozen;have ql:=HP2.o.lt.1;go_upto_region 6 with fail
  go_cut [34] (fun s wx=>∃fl:Bool,s=.bool fl/\(fl=true->0<b.length)/\Hd (StA P N wx (.mk h b))/\Hd (SpS w Q (2*N+40) base g (n+1000*N+998) q cc ss wx))
  case first=>
   by_cases hbz:b.length=0
   ·have h0:decide ((0:Int)<(b.length:Int))=false:=decide_eq_false (by omega);go_wp2_with fail
    go_meet
    exact⟨false,rfl,by simp,HY2,hd (HP2.o.less (by omega))⟩
   ·have h0:decide ((0:Int)<(b.length:Int))=true:=decide_eq_true (by omega);go_wp2_with fail
    refine(flip_any base g (n+1000*N+998) 2 w2 (HP2.o.stm.less (by omega)) (by omega)).mono ?_
    rintro e w3 ⟨fl,rfl,hE,hS⟩;have HP3:=hd (HP2.o.draw hE hS);have HY3:=hd (StA.ext hE (fun x hx hp=>HPG.o (List.mem_singleton.1 hx ▸ hp)) HY2.o);clear hE hS;go_wp2_with fail
    go_meet
    exact⟨fl,rfl,fun _=>by omega,HY3,HP3⟩
  case rest=>
   obtain⟨fl,rfl,hbL,HY3,HP3⟩:=hcut;clear HP2 HY2 c7 qf ql;have hN1:=HY3.o.pos;cases fl with
   | true=>
    have c7:=HP3.o.cell HYJ.o 7 _ rfl;have qf:=HP3.o.frozen;have ql:=HP3.o.lt.1;have hgl:=HP3.o.lt.2;have hws:=HP3.o.ext.size;have HHW:=hd hws;have hin:=HY3.o.all;have HR:=hd (HIY.o P (fun b=>P b\/wc.heap.size<=b) N (N-1) base g n wc h.A h.cap (fun b hb=>.inl hb) (fun b hb=>.inr hb) (fun b hb=>by have:=HPB.o b hb;omega) HPG.o hN (by omega) hin.2.2.2.2.2.2.1 hin.2.2.2.2.2.2.2 (HP3.o.stm.less (by omega)));clear hin;dsimp only[St.body] at HR;go_wp2_with fail
    refine HR.o.mono ?_
    rintro e w5 ⟨A5,c5,b5,rfl,hq5,hk5,hE,hS⟩;have HP5:=hd (HP3.o.draw hE hS);have c7:=HP5.o.cell HYJ.o 7 _ rfl;have qf:=HP5.o.frozen;have ql:=HP5.o.lt.1;have hm:=HP5.o.kid _ (List.mem_of_getElem? HYJ.o);obtain⟨k1,k2,k3,k4,k5,k6,k7,k8⟩:=hm.all
    have hsub:∀z,P z\/wc.heap.size<=z->Q z/\z≠q/\z≠g:=fun z hz=>by
     rcases hz with hz|hz
     ·exact⟨HPQ.o z hz,fun e=>by have:=HPB.o z hz;omega,fun e=>HPG.o (e ▸ hz)⟩
     ·exact⟨HQ.o z (by have:=HHW.o;omega),by omega,by omega⟩
    have HP6:=hd (HP5.o.put HYJ.o (.mk {h with A:=A5,cap:=c5 } b5) (k:=7) (v:=.slice A5 b5.length c5) (by decide) rfl (.mk _ _ k1 k2 k3 k4 k5 k6 hm.pos (SeqA.mono hq5 (fun z _ hz=>hsub z hz) (by omega)) (fun s hs=>StA.mono (fun z _ hz=>hsub z hz) (by omega) (hk5 s hs))));clear hE hS hq5 hk5 k1 k2 k3 k4 k5 k6 k7 k8 hm;go_wp2_with fail
    go_ret
    have hf:=HP6.o.fin (R:=2*R+40) (by rw[List.length_set,HL.o];omega) (HQ.o q hq0);exact⟨_,_,_,by rw[List.length_set,HL.o];rfl,hf.1,hf.2,HP6.o.ext,HP6.o.stm⟩
   | false=>
    clear hbL;go_upto_block 0 with fail
    refine(next_any base g (n+1000*N+990) 9 wc (HP3.o.stm.less (by omega)) (by omega)).mono ?_
    rintro e w4 ⟨r,rfl,hr,hE,hS⟩;have HP4:=hd (HP3.o.draw hE hS);have HY4:=hd (StA.ext hE (fun x hx hp=>HPG.o (List.mem_singleton.1 hx ▸ hp)) HY3.o);have hr9:r=0\/r=1\/r=2\/r=3\/r=4\/r=5\/r=6\/r=7\/r=8:=by omega
    have hvz:h.var.size<=2*N+40:=by have:=HY4.o.all.2.2.2.2.2.1;omega
    clear hE hS hr HP3 HY3;go_upto_block 0 with fail
    go_cut [] (fun wx=>∃ss':List St,ss'.length=L/\Hd (SpS w Q (2*N+40) base g n q cc ss' wx))
    case first=>
     have qf:=HP4.o.frozen;have ql:=HP4.o.lt.1;have hgl:g<w4.heap.size:=HP4.o.lt.2;have hw4:=HP4.o.ext.size;have HW4:=hd hw4;rcases hr9 with rfl|rfl|rfl|rfl|rfl|rfl|rfl|rfl|rfl
     ·skip
      go_wp2_with fail
      refine(range_any base g (n+900) 0 4 w4 (HP4.o.stm.less (by omega)) (by omega) (by omega)).mono ?_
      rintro e w6 ⟨y,rfl,-,hE,hS⟩;have HP6:=hd (HP4.o.draw hE hS);clear qf ql hE hS;have ck:w6.cell? ⟨q,j*21,none⟩=some (.int .i64 h.k):=HP6.o.cell HYJ.o 0 _ rfl;have qf:=HP6.o.frozen;have ql:=HP6.o.lt.1;have HP7:=hd (HP6.o.plain HYJ.o {h with k:=y } (k:=0) (v:=.int .i64 y) (by decide) rfl ⟨rfl,rfl,rfl,rfl,rfl,rfl⟩ hvz);go_wp2_with fail
      go_meet
      exact⟨_,by rw[List.length_set,HL.o],hd (HP7.o.less (by omega))⟩
     ·skip
      have HN:=hd (Blk.new w4 9 nmsA);have hE5:Ext [] w4 (w4.alloc (.cells nmsA 9)):=(Ext.refl _ _).alloc _;have HP5:=hd (HP4.o.draw hE5.nil (HP4.o.stm.ext hE5 (by simp) (by simp)));clear hE5;unfold nmsA at HN HP5;go_wp2_with fail
      refine(next_any base g (n+900) 5 _ (HP5.o.stm.less (by omega)) (by omega)).mono ?_
      rintro e w6 ⟨r1,rfl,hr1,hE,hS⟩;have HP6:=hd (HP5.o.draw hE hS);have HN6:=hd (HN.o.ext hE (by rw[List.mem_singleton];omega));obtain⟨r,rfl⟩:∃r:Nat,r1=r:=⟨r1.toNat,by omega⟩;have hr5:r<5:=by omega
      have hri:(r:Int)<5:=by omega
      obtain⟨s,hs,hcs⟩:=nmsA_get r hr5;have hb6:w4.heap.size<w6.heap.size:=HN6.o.lt;have cs:w6.cell? ⟨w4.heap.size,r,none⟩=some (.string s):=by rw[HN6.o.cell];exact hcs
      clear qf ql hE hS HN HP5 hr1 hcs HN6;have ck:w6.cell? ⟨q,j*21+1,none⟩=some (.string h.var):=HP6.o.cell HYJ.o 1 _ rfl;have qf:=HP6.o.frozen;have ql:=HP6.o.lt.1;have HP7:=hd (HP6.o.plain HYJ.o {h with var:=s } (k:=1) (v:=.string s) (by decide) rfl ⟨rfl,rfl,rfl,rfl,rfl,rfl⟩ (Nat.le_trans hs (by omega)));go_wp2_with fail
      go_meet
      exact⟨_,by rw[List.length_set,HL.o],hd (HP7.o.less (by omega))⟩
     ·skip
      have HN:=hd (Blk.new w4 3 (Nums [0,-100001,100001,-100000]));have hE5:Ext [] w4 (w4.alloc (.cells (Nums [0,-100001,100001,-100000]) 3)):=(Ext.refl _ _).alloc _;have HP5:=hd (HP4.o.draw hE5.nil (HP4.o.stm.ext hE5 (by simp) (by simp)));clear hE5;simp only[Nums,List.map_cons,List.map_nil] at HN HP5;go_wp2_with fail
      refine(pick_any base g (n+900) w4.heap.size 4 3 [0,-100001,100001,-100000] _ (HP5.o.stm.less (by omega)) HN.o (by omega) (by decide)).mono ?_
      rintro e w6 ⟨y,rfl,-,hE,hS⟩;have HP6:=hd (HP5.o.draw hE hS);clear qf ql hE hS HN HP5 hgl HP4 HY4;have hgl:g<w6.heap.size:=HP6.o.lt.2;have HN:=hd (Blk.new w6 3 (Nums [0,9,100001,100000]));have hE5:Ext [] w6 (w6.alloc (.cells (Nums [0,9,100001,100000]) 3)):=(Ext.refl _ _).alloc _;have HP7:=hd (HP6.o.draw hE5.nil (HP6.o.stm.ext hE5 (by simp) (by simp)));clear hE5;simp only[Nums,List.map_cons,List.map_nil] at HN HP7;go_wp2_with fail
      refine(pick_any base g (n+800) w6.heap.size 4 3 [0,9,100001,100000] _ (HP7.o.stm.less (by omega)) HN.o (by omega) (by decide)).mono ?_
      rintro e w8 ⟨z,rfl,-,hE,hS⟩;have HP8:=hd (HP7.o.draw hE hS);clear hE hS HN HP7 HP6 hgl;have ck:w8.cell? ⟨q,j*21+2,none⟩=some (.int .i64 h.lo):=HP8.o.cell HYJ.o 2 _ rfl;have ck3:w8.cell? ⟨q,j*21+3,none⟩=some (.int .i64 h.hi):=HP8.o.cell HYJ.o 3 _ rfl;have qf:=HP8.o.frozen;have ql:=HP8.o.lt.1;have HP9:=hd ((HP8.o.plain HYJ.o {h with lo:=y } (k:=2) (v:=.int .i64 y) (by decide) rfl ⟨rfl,rfl,rfl,rfl,rfl,rfl⟩ hvz).plain (List.getElem?_set_self (by rw[HL.o];exact hj)) {h with lo:=y,hi:=z } (k:=3) (v:=.int .i64 z) (by decide) rfl ⟨rfl,rfl,rfl,rfl,rfl,rfl⟩ hvz);go_wp2_with fail
      go_meet
      exact⟨_,by rw[List.length_set,List.length_set,HL.o],hd (HP9.o.less (by omega))⟩
     ·skip
      have HN:=hd (Blk.new w4 3 (Nums [0,-1,100001,1,3]));have hE5:Ext [] w4 (w4.alloc (.cells (Nums [0,-1,100001,1,3]) 3)):=(Ext.refl _ _).alloc _;have HP5:=hd (HP4.o.draw hE5.nil (HP4.o.stm.ext hE5 (by simp) (by simp)));clear hE5;simp only[Nums,List.map_cons,List.map_nil] at HN HP5;go_wp2_with fail
      refine(pick_any base g (n+900) w4.heap.size 5 3 [0,-1,100001,1,3] _ (HP5.o.stm.less (by omega)) HN.o (by omega) (by decide)).mono ?_
      rintro e w6 ⟨y,rfl,-,hE,hS⟩;have HP6:=hd (HP5.o.draw hE hS);clear qf ql hE hS HN HP5;have ck:w6.cell? ⟨q,j*21+4,none⟩=some (.int .i64 h.step):=HP6.o.cell HYJ.o 4 _ rfl;have qf:=HP6.o.frozen;have ql:=HP6.o.lt.1;have HP7:=hd (HP6.o.plain HYJ.o {h with step:=y } (k:=4) (v:=.int .i64 y) (by decide) rfl ⟨rfl,rfl,rfl,rfl,rfl,rfl⟩ hvz);go_wp2_with fail
      go_meet
      exact⟨_,by rw[List.length_set,HL.o],hd (HP7.o.less (by omega))⟩
     ·skip
      have ck:w4.cell? ⟨q,j*21+5,none⟩=some (.bool h.vec):=HP4.o.cell HYJ.o 5 _ rfl;have HP7:=hd (HP4.o.plain HYJ.o {h with vec:=!h.vec } (k:=5) (v:=.bool (!h.vec)) (by decide) rfl ⟨rfl,rfl,rfl,rfl,rfl,rfl⟩ hvz);go_wp2_with fail
      go_meet
      exact⟨_,by rw[List.length_set,HL.o],hd (HP7.o.less (by omega))⟩
     ·skip
      have ck:w4.cell? ⟨q,j*21+6,none⟩=some (.slice h.cA h.conds.length h.cc):=HP4.o.cell HYJ.o 6 _ rfl;have hcl:h.conds.length<=N:=HY4.o.all.1.1;have HC:=hd (cloA_any P N h.cA h.conds.length h.cc h.conds w4 HY4.o.all.1 rfl (by omega));generalize hlc:h.conds.length=Lc at *;have HLC:=hd hlc;clear hlc;go_wp2_with fail
      refine HC.o.mono ?_
      rintro e w5 ⟨v,rfl,ho,hE⟩;obtain⟨dA,dc,rfl,-,-⟩:=own_form ho;have HO5:=hd ho;have HE5:Hd (Ext [g] w4 w5):=hd hE.nil;have HS5:=hd (HP4.o.stm.ext hE (by simp) (by simp));clear ho hE HC;have HN:=hd (Blk.new w5 3 (Nums [-1,0,100001]));have HE6:=hd ((Ext.refl [] w5).alloc (.cells (Nums [-1,0,100001]) 3));have HS6:=hd (HS5.o.ext HE6.o (by simp) (by simp));have hsz5:=HE5.o.size;simp only[Nums,List.map_cons,List.map_nil] at HN HE6 HS6;go_wp2_with fail
      refine(pick_any base g (n+800) w5.heap.size 3 3 [-1,0,100001] _ (HS6.o.less (by omega)) HN.o (by omega) (by decide)).mono ?_
      rintro e w7 ⟨y,rfl,-,hE,hS⟩;have HE7:=hd ((HE5.o.trans HE6.o.nil).trans hE);have HS7:=hd hS;have HO7:=hd (own_ext (own_ext HO5.o HE6.o (by simp)) hE fun x hx=>by have:=own_base HO5.o x hx;rw[List.mem_singleton];omega);clear hE hS HN HE6 HS6 HE5 HS5 HO5 hsz5;have HE8:=hd ((Ext.refl [] w7).alloc (.cells #[.int .i64 y,.slice none 0 0] 38));have HO8:=hd (own_ext HO7.o HE8.o (by simp));have HB8:=hd (Blk.new w7 38 #[.int .i64 y,.slice none 0 0]);have HH8:Hd (w4.heap.size<=(w7.alloc (.cells #[.int .i64 y,.slice none 0 0] 38)).heap.size):=hd (Nat.le_trans HE7.o.size HE8.o.size);have HLN:Hd (Lc<=1000):=hd (by omega);obtain⟨i0,hi0,hz0,hz1,hz2⟩:=afInfo;clear ck qf ql
      go_wp2_with (first
       | refine wpList_op_run rfl (.agg #[.int .i64 y,.slice none 0 0]) w7 (exec_built 38 _ rfl _ (afNw_built y)) ?_
       | (
         refine wpList_op_run rfl (.slice (some ⟨w7.heap.size,0,none⟩) 1 1) (w7.alloc (.cells #[.int .i64 y,.slice none 0 0] 38)) ?rr ?_
         case rr=>
          refine exec_buildSlice rfl _ w7 _ _ (.agg #[.int .i64 y,.slice none 0 0]) ?_ ?_
          ·rfl
          ·exact af_slice w7 y)
       | (
         refine wpList_append_lies _ rfl _ _ 35 rfl w4.heap.size 38 i0 _ 2 32 Tryz.underlying35 hi0 hz0 hz1 hz2 rfl (by decide) (.slice dA Lc dc) Lc (h.conds.flatMap afC) rfl HO8.o ⟨w7.heap.size,0,none⟩ 1 1 (afC (afNw y)) rfl (afC_len _) ?c1 (afC_one _) (by omega) ?c3 ?c4 HH8.o _ rfl ?_
         case c1=>intro i v hv;rw[Addr.add_mk,Nat.zero_add,HB8.o.cell,<-Array.getElem?_toList];exact hv
         case c3=>have:=HLN.o;unfold maxLen;omega
         case c4=>have:=HLN.o;omega
         intro g8 c8 w8 ho8 hg8 hi8 ha8;have HO9:=hd ho8;have HG9:=hd hg8;have hE9:Ext (Value.slice dA Lc dc).ownBlock.toList w7 w8:=(HE8.o.nil).step ((Ext.refl _ _).grown hg8 fun q hq=>.inl (Option.mem_toList.2 hq)) fun x hx=>.inl hx
         have hqb:∀x∈(Value.slice dA Lc dc).ownBlock.toList,w4.heap.size<=x:=fun x hx=>own_base HO8.o x (Option.mem_toList.1 hx)
         have HP9:=hd (HP4.o.draw (HE7.o.step hE9 fun x hx=>.inr (hqb x hx)) (HS7.o.ext hE9 (fun hm=>by have:=hqb _ hm;omega) (fun x hx=>by have:=hqb x hx;omega)));clear ho8 hg8 hi8 ha8 hE9 hqb;have ck:w8.cell? ⟨q,j*21+6,none⟩=some (.slice h.cA h.conds.length h.cc):=HP9.o.cell HYJ.o 6 _ rfl;have qf:=HP9.o.frozen;have ql:=HP9.o.lt.1))
      have hfl:(h.conds ++ [afNw y]).flatMap afC=h.conds.flatMap afC ++ afC (afNw y):=by rw[List.flatMap_append];simp
      have hln1:(h.conds ++ [afNw y]).length=Lc+1:=by rw[List.length_append,List.length_singleton,HLC.o]
      have hOA:w8.ownsRow w4.heap.size 38 2 (.slice (some ⟨g8,0,none⟩) (Lc+1) c8) (h.conds ++ [afNw y]).length ((h.conds ++ [afNw y]).flatMap afC):=by rw[hfl,hln1];exact HO9.o
      have hQA:=(SeqA.own (P:=fun b=>Q b/\b≠q/\b≠g) (N:=2*N+40) afC_len hOA (by rw[hln1];omega) (by decide) (fun z _ h1 _=>⟨HQ.o z (by omega),by have:=HP4.o.lt.1;omega,by omega⟩)).2;have hm:=HP9.o.kid _ (List.mem_of_getElem? HYJ.o);obtain⟨k1,k2,k3,k4,k5,k6,k7,k8⟩:=hm.all
      have HPA:=hd (HP9.o.put HYJ.o (.mk {h with cA:=some ⟨g8,0,none⟩,cc:=c8,conds:=h.conds ++ [afNw y] } b) (k:=6) (v:=.slice (some ⟨g8,0,none⟩) (Lc+1) c8) (by decide) (by rw[<-hln1];rfl) (.mk _ _ hQA (fun a ha=>by
       rcases List.mem_append.1 ha with ha|ha
       ·exact k2 a ha
       ·rw[List.mem_singleton.1 ha];exact SeqA.nil ..) k3 k4 k5 k6 hm.pos k7 k8))
      clear k1 k2 k3 k4 k5 k6 k7 k8 hm hQA hOA;go_wp2_with fail
      go_meet
      exact⟨_,by rw[List.length_set,HL.o],hd (HPA.o.less (by omega))⟩
     ·skip
      go_wp2_with fail
      refine(range_any base g (n+900) (-1) 5 w4 (HP4.o.stm.less (by omega)) (by omega) (by omega)).mono ?_
      rintro e w6 ⟨y,rfl,-,hE,hS⟩;have HP6:=hd (HP4.o.draw hE hS);clear qf ql hE hS;have ck:w6.cell? ⟨q,j*21+8,none⟩=some (.int .i64 h.buf):=HP6.o.cell HYJ.o 8 _ rfl;have qf:=HP6.o.frozen;have ql:=HP6.o.lt.1;have HP7:=hd (HP6.o.plain HYJ.o {h with buf:=y } (k:=8) (v:=.int .i64 y) (by decide) rfl ⟨rfl,rfl,rfl,rfl,rfl,rfl⟩ hvz);go_wp2_with fail
      go_meet
      exact⟨_,by rw[List.length_set,HL.o],hd (HP7.o.less (by omega))⟩
     ·skip
      have ck9:w4.cell? ⟨q,j*21+9,none⟩=some (.int .i64 h.at_.base):=HP4.o.cell HYJ.o 9 _ rfl;have ck10:w4.cell? ⟨q,j*21+10,none⟩=some (.slice h.at_.A h.at_.ts.length h.at_.cap):=HP4.o.cell HYJ.o 10 _ rfl;have HC:=hd (spAf_any P N base g (n+100) h.at_ w4 (HP4.o.stm.less (by omega)) HY4.o.all.2.2.1 (by omega));unfold afV at HC;go_wp2_with fail
      refine HC.o.mono ?_
      rintro e w6 ⟨a',rfl,ha',hE,hS⟩;have HP6:=hd (HP4.o.draw hE hS);have HA6:Hd (AfA (fun b=>Q b/\b≠q/\b≠g) (2*N+40) w6 a'):=hd (SeqA.mono ha' (fun b _ hb=>⟨HQ.o b (by omega),by have:=HP4.o.lt.1;omega,by omega⟩) (by omega));clear ck9 ck10 qf ql hE hS ha' HC;have ck9:w6.cell? ⟨q,j*21+9,none⟩=some (.int .i64 h.at_.base):=HP6.o.cell HYJ.o 9 _ rfl;have ck10:w6.cell? ⟨q,j*21+10,none⟩=some (.slice h.at_.A h.at_.ts.length h.at_.cap):=HP6.o.cell HYJ.o 10 _ rfl;have qf:=HP6.o.frozen;have ql:=HP6.o.lt.1;have hm:=HP6.o.kid _ (List.mem_of_getElem? HYJ.o);obtain⟨k1,k2,k3,k4,k5,k6,k7,k8⟩:=hm.all;have HP7:=hd (HP6.o.put HYJ.o (.mk {h with at_:={h.at_ with base:=a'.base } } b) (k:=9) (v:=.int .i64 a'.base) (by decide) rfl (.mk _ _ k1 k2 k3 k4 k5 k6 hm.pos k7 k8));clear k1 k2 k3 k4 k5 k6 k7 k8 hm;have hy7:=List.getElem?_set_self (l:=ss) (i:=j) (a:=St.mk {h with at_:={h.at_ with base:=a'.base } } b) (by rw[HL.o];exact hj);have hm:=HP7.o.kid _ (List.mem_of_getElem? hy7);obtain⟨k1,k2,k3,k4,k5,k6,k7,k8⟩:=hm.all;have HP8:=hd (HP7.o.put hy7 (.mk {h with at_:=a' } b) (k:=10) (v:=.slice a'.A a'.ts.length a'.cap) (by decide) rfl (.mk _ _ k1 k2 (SeqA.ext HA6.o (Ext.setAt (S:=[q]) (.inl (by simp)) (Ext.refl _ _)) (fun x hx hp=>hp.2.1 (List.mem_singleton.1 hx))) k4 k5 k6 hm.pos k7 k8));clear k1 k2 k3 k4 k5 k6 k7 k8 hm hy7;go_wp2_with fail
      go_meet
      exact⟨_,by rw[List.length_set,List.length_set,HL.o],hd (HP8.o.less (by omega))⟩
     ·skip
      have HCA:Hd (∀(i:Nat) (v:Value),(exArr h.val).toList[i]? = some v->w4.cell? ⟨q,j*21+11+i,none⟩=some v):=hd fun i v hv=>by
       rw[Nat.add_assoc];exact HP4.o.cell HYJ.o (11+i) v (by rw[stC_val,List.getElem?_append_right (by simp)];simpa using hv)
      have HC:=hd (spx_any h.val P (fun b=>P b\/w4.heap.size<=b) N base g (n+100) w4 (fun b hb=>.inl hb) (fun b hb=>.inr hb) (fun b hb=>by have:=HPB.o b hb;omega) HPG.o hN HY4.o.all.2.2.2.1 (HP4.o.stm.less (by have:=HY4.o.all.2.2.2.2.1;omega)));have HPV:Hd (parts h.val<=N):=hd HY4.o.all.2.2.2.2.1;have HIX:Hd ((Tryz.prog.info? 41).map (·.size)=some (exArr h.val).size):=hd (exHA_info h.val.h h.val.ks.length);rw[exV_arr] at HC;generalize hxv:exArr h.val=xv at *;go_wp2_with (refine wpList_op_run rfl (.agg xv) w4 (exec_load_wide 41 _ rfl q (j*21+11) rfl xv HCA.o _ Tryz.underlying41 rfl HIX.o) ?_)
      refine HC.o.mono ?_
      rintro e w6 ⟨e',rfl,he',hp',hE,hS⟩;have HP6:=hd (HP4.o.draw hE hS)
      have HE6:Hd (ExA (fun b=>Q b/\b≠q/\b≠g) (2*N+40) w6 e'):=hd (ExA.mono (fun b _ hb=>by
       rcases hb with hb|hb
       ·exact⟨HPQ.o b hb,fun e=>by have:=HPB.o b hb;omega,fun e=>HPG.o (e ▸ hb)⟩
       ·exact⟨HQ.o b (by omega),by have:=HP4.o.lt.1;omega,by omega⟩) (Nat.le_refl _) he')
      have HPE:Hd (parts e'<=2*N+40):=hd (by have:=HPV.o;omega);clear hE hS he' hp' HC qf ql;have HI6:Hd ((Tryz.prog.info? 41).map (·.size)=some (exArr e').size):=hd (exHA_info e'.h e'.ks.length);have HO6:Hd ((exArr e').all (·.oneCell')=true):=hd (exHA_one e'.h e'.ks.length);obtain⟨cur,hBk,hsz⟩:=HP6.o.blk;have HBK:=hd hBk;have HSZ:Hd (j*21+11+(exArr e').size<=cur.size):=hd (by have:(exArr e').size=10:=rfl;rw[HL.o] at hsz;omega);clear hBk hsz;rw[exV_arr];have hm:=HP6.o.kid _ (List.mem_of_getElem? HYJ.o);obtain⟨k1,k2,k3,k4,k5,k6,k7,k8⟩:=hm.all;have HP7:=hd (HP6.o.puts HYJ.o (.mk {h with val:=e' } b) (k:=11) (vs:=(exArr e').toList) (by show 11+10<=21;decide) rfl (.mk _ _ k1 k2 k3 HE6.o HPE.o k6 hm.pos k7 k8));clear k1 k2 k3 k4 k5 k6 k7 k8 hm;generalize hxe:exArr e'=xe at *;have qf:=HP6.o.frozen;have ql:=HP6.o.lt.1;go_wp2_with (refine wpList_skip_run rfl (w6.setCells q (j*21+11) xe.toList) (exec_store_mid rfl _ w6 q (j*21+11) xe cur 43 rfl rfl HBK.o HSZ.o HI6.o HO6.o) ?_)
      go_meet
      exact⟨_,by rw[List.length_set,HL.o],hd (HP7.o.less (by omega))⟩
    case rest=>
     obtain⟨ss',hl',HP9⟩:=hcut;go_wp2_with fail
     go_ret
     have hf:=HP9.o.fin (R:=2*R+40) (by omega) (HQ.o q hq0);exact⟨_,_,_,by rw[hl'];rfl,hf.1,hf.2,HP9.o.ext,HP9.o.stm⟩
theorem spb_any (ss:List St):SpbC ss:=by
 have h:∀s:St,SpbC s.body:=st_ind (P:=fun s=>SpbC s.body) fun h ks ih=>spb_step ks ih
 exact spb_step ss fun s _=>h s
end Go.Proofs.YtfppibmloloakaaGreatDoor
