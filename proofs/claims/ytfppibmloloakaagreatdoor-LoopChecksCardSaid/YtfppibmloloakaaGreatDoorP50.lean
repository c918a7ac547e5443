import Derived.Test.YtfppibmloloakaaGreatDoorP49
namespace Go.Proofs.YtfppibmloloakaaGreatDoor
open Go.RowKit Go.Proofs.Tryz
set_option linter.all false
def nmsB:Array Value:=#[.string ⟨#[]⟩,.string ⟨#[97]⟩,.string ⟨#[65]⟩,.string ⟨#[98]⟩,.string ⟨#[97,98,99,100,101,102,103,104,105]⟩]
theorem nmsB_get (r:Nat)(hr:r<5):∃s:ByteArray,s.size<=10/\nmsB[r]? = some (.string s):=by
 have h:r=0\/r=1\/r=2\/r=3\/r=4:=by omega
 rcases h with rfl|rfl|rfl|rfl|rfl<;>exact⟨_,by decide,rfl⟩
def SppP (Q:Nat->Prop)(M base g n:Nat)(w:World)(e:Ending)(w':World):Prop:=∃p:Pg,e=.returned (pgV p)/\PgA Q M w' p/\Ext [g] w w'/\Stm w' base g n
set_option maxHeartbeats 16000000 in
set_option maxRecDepth 100000 in
theorem spp_any (P Q:Nat->Prop)(N base g n:Nat)(p:Pg)(w:World)(hPQ:∀b,P b->Q b)(hQ:∀b,w.heap.size<=b->Q b)(hPB:∀b,P b->b<w.heap.size)(hPg:¬P g)(hN:N<=500)(hp:PgA P N w p)(hS:Stm w base g (n+1000*N+2000)) :
  Calls Tryz.prog 49 #[.pointer (some ⟨g,0,none⟩),pgV p] w (SppP Q (2*N+40) base g n w):=by
 have HS:=hd hS;have hg:=hS.lt;have hbg:=hS.base;have HPQ:=hd hPQ;have HQ:=hd hQ;have HPG:=hd hPg;have HPB:=hd hPB;have HP:=hd hp;clear hS hPQ hQ hPg hPB hp;obtain⟨A,cap,bs,B,bcap,body⟩:=p;have hlb:bs.length<=N:=HP.o.bufs.1;have hlc:body.length<=N:=HP.o.body.1;unfold pgV;dsimp only;generalize hl:bs.length=L at *;have HL:=hd hl;clear hl;go_enter Tryz.func49,Tryz.ntmps49
 go_upto_region 1 with fail
 have HE1:=hd (((Ext.refl [g] w).alloc (.cells #[.slice A L cap,.slice B body.length bcap] 29)).alloc (.cells #[.slice none 0 0,.slice none 0 0] 29));have HB1:=hd ((Blk.new w 29 #[.slice A L cap,.slice B body.length bcap]).alloc (.cells #[.slice none 0 0,.slice none 0 0] 29));have HR1:=hd (Blk.new (w.alloc (.cells #[.slice A L cap,.slice B body.length bcap] 29)) 29 pgZ);have HS1:=hd ((HS.o.alloc (.cells #[.slice A L cap,.slice B body.length bcap] 29)).alloc (.cells #[.slice none 0 0,.slice none 0 0] 29));rw[alloc_size] at HR1;unfold pgZ at HR1;have HXX:=hd (PgA.ext HP.o HE1.o (fun x hx hp=>HPG.o (List.mem_singleton.1 hx ▸ hp)));generalize World.alloc (World.alloc w _) _=w1 at *;have HP1:Hd (SpG w Q (2*N+40) base g (n+1000*N+2000) (w.heap.size+1) w.heap.size ⟨A,cap,bs,B,bcap,body⟩ w1):=hd ⟨HE1.o,HS1.o,HR1.o,by unfold pgArr;dsimp only;rw[HL.o];exact HB1.o,HXX.o.mono (fun b _ hb=>⟨HPQ.o b hb,by have:=HPB.o b hb;omega,by have:=HPB.o b hb;omega,fun e=>HPG.o (e ▸ hb)⟩) (by omega),Nat.le_refl _,by omega,hg,hbg⟩;clear HE1 HB1 HR1 HS1 HP;generalize hpb:w.heap.size=pb at *;have HPA:Hd (pgArr ⟨A,cap,bs,B,bcap,body⟩=#[.slice A L cap,.slice B body.length bcap]):=hd (by unfold pgArr;dsimp only;rw[HL.o]);go_cut [13] (fun s wx=>∃fl:Bool,s=.bool fl/\(fl=true->0<L)/\Hd (PgA P N wx ⟨A,cap,bs,B,bcap,body⟩)/\Hd (SpG w Q (2*N+40) base g (n+1000*N+1999) (pb+1) pb ⟨A,cap,bs,B,bcap,body⟩ wx))
 case first=>
  go_wp2_with fail
  refine(flip_any base g (n+1000*N+1999) 4 w1 (HP1.o.stm.less (by omega)) (by omega)).mono ?_
  rintro e w2 ⟨fl,rfl,hE,hS⟩;have HP2:=hd (HP1.o.draw hE hS);have HX2:=hd (PgA.ext HXX.o hE (fun x hx hp=>HPG.o (List.mem_singleton.1 hx ▸ hp)));clear hE hS;have qb:=HP2.o.blk.cell;have qbf:=HP2.o.blk.frozen;have qbl:=HP2.o.blk.lt;rw[HPA.o] at qb;cases fl with
  | false=>
   go_wp2_with fail
   go_meet
   exact⟨false,rfl,by simp,HX2,HP2⟩
  | true=>
   by_cases hz:L=0
   ·subst hz;have h0:decide ((0:Int)<0)=false:=by decide
    go_wp2_with fail
    go_meet
    exact⟨false,rfl,by simp,HX2,HP2⟩
   ·have h0:decide ((0:Int)<(L:Int))=true:=decide_eq_true (by omega);go_wp2_with fail
    go_meet
    exact⟨true,congrArg Value.bool (decide_eq_true (by omega)),fun _=>by omega,HX2,HP2⟩
 case rest=>
  obtain⟨fl,rfl,hL,HX2,HP2⟩:=hcut;clear HP1 HXX;have hHW:=HP2.o.ext.size;have HHW:=hd hHW;have hgw:=HP2.o.stm.lt;have hrw:=HP2.o.res.lt;cases fl with
  | false=>
     have hsub:∀z,P z\/wc.heap.size<=z->Q z/\z≠pb/\z≠pb+1/\z≠g:=fun z hz=>by
      rcases hz with hz|hz
      ·exact⟨HPQ.o z hz,by have:=HPB.o z hz;omega,by have:=HPB.o z hz;omega,fun e=>HPG.o (e ▸ hz)⟩
      ·exact⟨HQ.o z (by omega),by omega,by omega,by omega⟩
     have HSU:=hd hsub;have HC:=hd (spb_any body P (fun b=>P b\/wc.heap.size<=b) N N base g n wc B bcap (fun b hb=>.inl hb) (fun b hb=>.inr hb) (fun b hb=>by have:=HPB.o b hb;omega) HPG.o (by omega) (by omega) HX2.o.body HX2.o.stmt (HP2.o.stm.less (by omega)));clear hsub;have qb:=HP2.o.blk.cell;have qbf:=HP2.o.blk.frozen;have qbl:=HP2.o.blk.lt;rw[HPA.o] at qb;go_wp2_with fail
     refine HC.o.mono ?_
     rintro e w5 ⟨A5,c5,b5,rfl,hq5,hk5,hE,hS⟩;have HP5:=hd (HP2.o.draw hE hS);clear qb qbf qbl hE hS HC;have qb:=HP5.o.blk.cell;have qbf:=HP5.o.blk.frozen;have qbl:=HP5.o.blk.lt;rw[HPA.o] at qb;have HP6:=hd (HP5.o.set 1 (.slice A5 b5.length c5) ⟨A,cap,bs,A5,c5,b5⟩ rfl ⟨HP5.o.pg.bufs,HP5.o.pg.each,HP5.o.pg.cap,SeqA.mono hq5 (fun z _ hz=>HSU.o z hz) (Nat.le_refl _),fun s hs=>StA.mono (fun z _ hz=>HSU.o z hz) (Nat.le_refl _) (hk5 s hs)⟩);go_upto_region 16 with fail
     generalize World.setCell w5 _ _=w6 at *;clear qb qbf qbl hq5 hk5;generalize Pg.mk A cap bs A5 c5 b5=p6 at *;have qp:=HP6.o.blk.cell;have qpf:=HP6.o.blk.frozen;have qpl:=HP6.o.blk.lt;have qr:=HP6.o.res.cell;have qrf:=HP6.o.res.frozen;have qrl:=HP6.o.res.lt;unfold pgArr at qp;try dsimp only at qp
     unfold pgZ at qr;have HE9:=hd ((Ext.setAt (b:=pb+1) (i:=0) (u:=.slice p6.A p6.bs.length p6.cap) (.inl (by simp)) (Ext.refl [pb+1] w6)).trans (Ext.setAt (b:=pb+1) (i:=1) (u:=.slice p6.B p6.body.length p6.bcap) (.inl (by simp)) (Ext.refl [pb+1] _)));have HR9:=hd ((HP6.o.res.set_' 0 (.slice p6.A p6.bs.length p6.cap) #[.slice p6.A p6.bs.length p6.cap,.slice none 0 0] rfl).set_' 1 (.slice p6.B p6.body.length p6.bcap) #[.slice p6.A p6.bs.length p6.cap,.slice p6.B p6.body.length p6.bcap] rfl);go_wp2_with fail
     refine bodyPost_ret (results_cell_row rfl _ _ (pb+1) 29 _ (0,0) _ rfl HR9.o Tryz.underlying29 rfl (by kernel_rfl)) rfl ?_
     obtain⟨z1,z2,z3⟩:=HP6.o.done HE9.o;exact⟨p6,rfl,z1,hpb ▸ z2,z3⟩
  | true=>
   have hL1:=hL rfl;have qb:=HP2.o.blk.cell;have qbf:=HP2.o.blk.frozen;have qbl:=HP2.o.blk.lt;rw[HPA.o] at qb;have HC:=hd (cloB_any P N A L cap bs wc HX2.o.bufs HL.o (by omega));go_wp2_with fail
   refine HC.o.mono ?_
   rintro e w5 ⟨v,rfl,ho,hE⟩;obtain⟨cA,cc,rfl,-,hnz⟩:=own_form ho;obtain⟨q,rfl,hq0,hqw⟩:=hnz hL1;generalize hH:wc.heap.size=H at *;have HE5:=hd hE;have HO5:=hd ho;have HB5:=hd (HP2.o.blk.ext hE (by simp));rw[HPA.o] at HB5;clear qb qbf qbl ho hE HC hnz;have qb:=HB5.o.cell;have qbf:=HB5.o.frozen;have qbl:=HB5.o.lt;have hqq:Q q:=HQ.o q (by omega)
   have HQ6:Hd (SpB w Q (2*N+40) base g (n+1000*N+1999) (pb+1) pb H q cc B bcap body bs (w5.setCell ⟨pb,0,none⟩ (.slice (some ⟨q,0,none⟩) L cc))):=hd (by
    have hE2:Ext [pb] w5 (w5.setCell ⟨pb,0,none⟩ (.slice (some ⟨q,0,none⟩) L cc)):=Ext.setAt (.inl (by simp)) (Ext.refl _ _);have hP:∀x∈[pb],¬P x:=fun x hx hp=>by have:=HPB.o x hp;rw[List.mem_singleton.1 hx] at this;omega
    have hto:∀b,P b->Q b/\b≠pb/\b≠pb+1/\b≠g/\b≠q:=fun b hb=>⟨HPQ.o b hb,by have:=HPB.o b hb;omega,by have:=HPB.o b hb;omega,fun e=>HPG.o (e ▸ hb),by have:=HPB.o b hb;omega⟩
    have hX:=(HX2.o.ext HE5.o (by simp)).ext hE2 hP
    refine⟨(HP2.o.ext.trans HE5.o.nil).step hE2 fun x hx=>.inr (by rw[List.mem_singleton.1 hx,hpb];exact Nat.le_refl _),(HP2.o.stm.ext HE5.o (by simp) (by simp)).ext hE2 (by rw[List.mem_singleton];omega) (fun x hx=>by rw[List.mem_singleton.1 hx];omega),(HP2.o.res.ext HE5.o (by simp)).ext hE2 (by rw[List.mem_singleton];omega),?_,?_,
     fun b hb=>BfA.mono (fun b _ h=>hto b h) (by omega) (hX.each b hb),SeqA.mono hX.body (fun b _ h=>hto b h) (by omega),fun s hs=>StA.mono (fun b _ h=>hto b h) (by omega) (hX.stmt s hs),by omega,by omega,by omega,by omega,hbg⟩
    ·rw[HL.o];exact HB5.o.set_' 0 _ _ rfl
    ·rw[HL.o];exact own_ext HO5.o hE2 fun y hy=>by have e:q=y:=(by cases hy;rfl);rw[List.mem_singleton];omega)
   have HX6:Hd (PgA P N (w5.setCell ⟨pb,0,none⟩ (.slice (some ⟨q,0,none⟩) L cc)) ⟨A,cap,bs,B,bcap,body⟩):=hd ((HX2.o.ext HE5.o (by simp)).ext (Ext.setAt (S:=[pb]) (.inl (by simp)) (Ext.refl _ _)) fun x hx hp=>by have:=HPB.o x hp;rw[List.mem_singleton.1 hx] at this;omega);have hwH:H<=w5.heap.size:=by have:=HE5.o.size;omega
   go_upto_region 3 with fail
   have hw6:(w5.setCell ⟨pb,0,none⟩ (.slice (some ⟨q,0,none⟩) L cc)).heap.size=w5.heap.size:=by simp
   generalize World.setCell w5 _ _=w6 at *;clear qb qbf qbl HE5 HO5 HB5 HP2 HX2;have HBL:=hd (And.intro hL1 (show L<=N from hlb));have HBK:Hd (∀wr,Ext [g] w6 wr->Blk wr pb 29 #[.slice (some ⟨q,0,none⟩) L cc,.slice B body.length bcap]):=hd fun wr hE=>by have:=HQ6.o.blk.ext hE (by rw[List.mem_singleton];omega);rw[HL.o] at this;exact this
   refine rgC 7 1 base g (n+1000*N+1900) [(6,sBelow L)] (Stays.cons sBelow.stays Stays.nil) (HQ6.o.stm.less (by omega)) ?_
   simp only[List.take_succ_cons,List.take_zero,List.drop_succ_cons,List.drop_zero]
   repeat
    refine relAt_det rfl rfl ?_
    apply Exists.intro
    refine⟨fun wr nr hJ=>?_,?_⟩
    ·have qb:=(HBK.o wr hJ.1).cell;have qbl:=(HBK.o wr hJ.1).lt;clear hJ;(go_simp;try go_bits)
     first|rfl|exact⟨rfl,rfl⟩
    simp only[Act.put,List.setIfInBounds_toArray,List.set_cons_succ,List.set_cons_zero]
   refine rel_callC (sBelow L) rfl rfl ?_ ?_
   ·apply Exists.intro
    apply Exists.intro
    refine⟨fun wr=>?_,fun wr m hE hS hm hf=>?_⟩
    ·go_simp
     first|exact⟨rfl,rfl⟩|rfl
    ·refine(next_any base g m (L:Int) wr hS (by have:=HBL.o.2;omega)).mono ?_
     rintro e w' ⟨r,rfl,hr,hE',hS'⟩;exact⟨r,rfl,⟨hr.1,hr.2 (by have:=HBL.o.1;omega)⟩,hE',hS'⟩
   intro (j0:Int);simp only[Act.put,List.setIfInBounds_toArray,List.set_cons_succ,List.set_cons_zero];dsimp only[sBelow];refine relAt_nil (fun w7 hJ hF=>?_)
   have hj0:0<=j0/\j0<L:=hF 6;obtain⟨j,rfl⟩:∃j:Nat,j0=j:=⟨j0.toNat,by omega⟩;have hj:j<L:=by omega
   have hji:(j:Int)<L:=by omega
   obtain⟨y,hy⟩:∃y,bs[j]? = some y:=⟨_,List.getElem?_eq_getElem (by rw[HL.o];exact hj)⟩;have HYJ:=hd hy;have HQ7:=hd ((HQ6.o.draw hJ.1 hJ.2).less (m:=n+1000*N+1900) (by omega));have HY7:=hd (BfA.ext hJ.1 (fun x hx hp=>HPG.o (List.mem_singleton.1 hx ▸ hp)) (HX6.o.each y (List.mem_of_getElem? hy)));have hw7:=hJ.1.size;clear hJ hF hj0 HQ6 HX6 HBK hy;go_upto_region 4 with fail
   go_wp2_with fail
   refine(next_any base g (n+1000*N+1800) 5 w7 (HQ7.o.stm.less (by omega)) (by omega)).mono ?_
   rintro e w4 ⟨r,rfl,hr,hE,hS⟩;have HQ4:=hd (HQ7.o.draw hE hS);have HY4:=hd (BfA.ext hE (fun x hx hp=>HPG.o (List.mem_singleton.1 hx ▸ hp)) HY7.o);have hr5:r=0\/r=1\/r=2\/r=3\/r=4:=by omega
   have hw4:=hE.size;have hyz:y.name.size<=2*N+40:=by have:=HY4.o.2;omega
   clear hE hS hr HQ7 HY7;go_upto_block 0 with fail
   go_cut [] (fun wx=>∃p':Pg,Hd (SpG w Q (2*N+40) base g n (pb+1) pb p' wx))
   case first=>
     have qf:=HQ4.o.frozen;have ql:=HQ4.o.lt.1;have hgl:g<w4.heap.size:=HQ4.o.lt.2.1;have hbd:=(HQ4.o.each y (List.mem_of_getElem? HYJ.o)).1;have HBD:=hd hbd;clear hbd;rcases hr5 with rfl|rfl|rfl|rfl|rfl
     ·skip
      have HN:=hd (Blk.new w4 9 nmsB);have hE5:Ext [] w4 (w4.alloc (.cells nmsB 9)):=(Ext.refl _ _).alloc _;have HQ5:=hd (HQ4.o.draw hE5.nil (HQ4.o.stm.ext hE5 (by simp) (by simp)));clear hE5;unfold nmsB at HN HQ5;go_wp2_with fail
      refine(next_any base g (n+900) 5 _ (HQ5.o.stm.less (by omega)) (by omega)).mono ?_
      rintro e w6 ⟨r1,rfl,hr1,hE,hS⟩;have HQ6:=hd (HQ5.o.draw hE hS);have HN6:=hd (HN.o.ext hE (by rw[List.mem_singleton];omega));obtain⟨r,rfl⟩:∃r:Nat,r1=r:=⟨r1.toNat,by omega⟩;have hr5:r<5:=by omega
      have hri:(r:Int)<5:=by omega
      obtain⟨z,hs,hcs⟩:=nmsB_get r hr5;have hb6:w4.heap.size<w6.heap.size:=HN6.o.lt;have cs:w6.cell? ⟨w4.heap.size,r,none⟩=some (.string z):=by rw[HN6.o.cell];exact hcs
      clear qf ql hE hS HN HQ5 hr1 hcs HN6;have ck:w6.cell? ⟨q,j*4,none⟩=some (.string y.name):=HQ6.o.cell HYJ.o 0 _ rfl;have qf:=HQ6.o.frozen;have ql:=HQ6.o.lt.1;have HQ7:=hd (HQ6.o.put HYJ.o {y with name:=z } (k:=0) (v:=.string z) (by decide) rfl ⟨(HQ6.o.each y (List.mem_of_getElem? HYJ.o)).1,Nat.le_trans hs (by omega)⟩);go_wp2_with fail
      go_meet
      exact⟨_,hd ((HQ7.o.fin (by rw[List.length_set,HL.o];omega) hqq).less (by omega))⟩
     ·skip
      have HN:=hd (Blk.new w4 3 (Nums [0,-1,262144,262145,1]));have hE5:Ext [] w4 (w4.alloc (.cells (Nums [0,-1,262144,262145,1]) 3)):=(Ext.refl _ _).alloc _;have HQ5:=hd (HQ4.o.draw hE5.nil (HQ4.o.stm.ext hE5 (by simp) (by simp)));clear hE5;simp only[Nums,List.map_cons,List.map_nil] at HN HQ5;go_wp2_with fail
      refine(pick_any base g (n+900) w4.heap.size 5 3 [0,-1,262144,262145,1] _ (HQ5.o.stm.less (by omega)) HN.o (by omega) (by decide)).mono ?_
      rintro e w6 ⟨z,rfl,-,hE,hS⟩;have HQ6:=hd (HQ5.o.draw hE hS);clear qf ql hE hS HN HQ5;have ck:w6.cell? ⟨q,j*4+1,none⟩=some (.int .i64 y.size):=HQ6.o.cell HYJ.o 1 _ rfl;have qf:=HQ6.o.frozen;have ql:=HQ6.o.lt.1;have HQ7:=hd (HQ6.o.put HYJ.o {y with size:=z } (k:=1) (v:=.int .i64 z) (by decide) rfl ⟨(HQ6.o.each y (List.mem_of_getElem? HYJ.o)).1,hyz⟩);go_wp2_with fail
      go_meet
      exact⟨_,hd ((HQ7.o.fin (by rw[List.length_set,HL.o];omega) hqq).less (by omega))⟩
     ·skip
      have ck:w4.cell? ⟨q,j*4+2,none⟩=some (.bool y.set):=HQ4.o.cell HYJ.o 2 _ rfl;have HQ7:=hd (HQ4.o.put HYJ.o {y with set:=!y.set } (k:=2) (v:=.bool (!y.set)) (by decide) rfl ⟨HBD.o,hyz⟩);go_wp2_with fail
      go_meet
      exact⟨_,hd ((HQ7.o.fin (by rw[List.length_set,HL.o];omega) hqq).less (by omega))⟩
     ·skip
      have ck:w4.cell? ⟨q,j*4+3,none⟩=some (.slice y.A y.data.length y.cap):=HQ4.o.cell HYJ.o 3 _ rfl;have hcl:y.data.length<=N:=HY4.o.1.1;have HC:=hd (cloI_any P N y.A y.data.length y.cap y.data w4 HY4.o.1 rfl (by omega));generalize hlc:y.data.length=Lc at *;have HLC:=hd hlc;clear hlc;go_wp2_with fail
      refine HC.o.mono ?_
      rintro e w5 ⟨v,rfl,ho,hE⟩;obtain⟨dA,dc,rfl,-,-⟩:=own_form ho;have HO5:=hd ho;have HE5:Hd (Ext [g] w4 w5):=hd hE.nil;have HS5:=hd (HQ4.o.stm.ext hE (by simp) (by simp));clear ho hE HC;have HN:=hd (Blk.new w5 3 (Nums [1,2147483648]));have HE6:=hd ((Ext.refl [] w5).alloc (.cells (Nums [1,2147483648]) 3));have HS6:=hd (HS5.o.ext HE6.o (by simp) (by simp));have hsz5:=HE5.o.size;simp only[Nums,List.map_cons,List.map_nil] at HN HE6 HS6;go_wp2_with fail
      refine(pick_any base g (n+800) w5.heap.size 2 3 [1,2147483648] _ (HS6.o.less (by omega)) HN.o (by omega) (by decide)).mono ?_
      rintro e wz ⟨z,rfl,-,hE,hS⟩;have HE7:=hd ((HE5.o.trans HE6.o.nil).trans hE);have HS7:=hd hS;have HO7:=hd (own_ext (own_ext HO5.o HE6.o (by simp)) hE fun x hx=>by have:=own_base HO5.o x hx;rw[List.mem_singleton];omega);clear hE hS HN HE6 HS6 HE5 HS5 HO5 hsz5;have HE8:=hd ((Ext.refl [] wz).alloc (.cells #[.int .i64 z] 3));have HO8:=hd (own_ext HO7.o HE8.o (by simp));have HB8:=hd (Blk.new wz 3 #[.int .i64 z]);have HH8:Hd (w4.heap.size<=(wz.alloc (.cells #[.int .i64 z] 3)).heap.size):=hd (Nat.le_trans HE7.o.size HE8.o.size);have HLN:Hd (Lc<=1000):=hd (by omega);obtain⟨i0,hi0,hz0,hz1,hz2⟩:=intInfo;clear ck qf ql
      go_wp2_with (
       refine wpList_append_lies _ rfl _ _ 22 rfl w4.heap.size 3 i0 _ 1 8 Tryz.underlying22 hi0 hz0 hz1 hz2 rfl (by decide) (.slice dA Lc dc) Lc (y.data.flatMap inC) rfl HO8.o ⟨wz.heap.size,0,none⟩ 1 1 (inC z) rfl (inC_len _) ?c1 (inC_one _) (by omega) ?c3 ?c4 HH8.o _ rfl ?_
       case c1=>intro i v hv;rw[Addr.add_mk,Nat.zero_add,HB8.o.cell,<-Array.getElem?_toList];exact hv
       case c3=>have:=HLN.o;unfold maxLen;omega
       case c4=>have:=HLN.o;omega
       intro g8 c8 w8 ho8 hg8 hi8 ha8;have HO9:=hd ho8;have hE9:Ext (Value.slice dA Lc dc).ownBlock.toList wz w8:=(HE8.o.nil).step ((Ext.refl _ _).grown hg8 fun q hq=>.inl (Option.mem_toList.2 hq)) fun x hx=>.inl hx
       have hqb:∀x∈(Value.slice dA Lc dc).ownBlock.toList,w4.heap.size<=x:=fun x hx=>own_base HO8.o x (Option.mem_toList.1 hx)
       have HQ9:=hd (HQ4.o.draw (HE7.o.step hE9 fun x hx=>.inr (hqb x hx)) (HS7.o.ext hE9 (fun hm=>by have:=hqb _ hm;omega) (fun x hx=>by have:=hqb x hx;omega)));clear ho8 hg8 hi8 ha8 hE9 hqb;have ck:w8.cell? ⟨q,j*4+3,none⟩=some (.slice y.A y.data.length y.cap):=HQ9.o.cell HYJ.o 3 _ rfl;have qf:=HQ9.o.frozen;have ql:=HQ9.o.lt.1)
      have hfl:(y.data ++ [z]).flatMap inC=y.data.flatMap inC ++ inC z:=by rw[List.flatMap_append];simp
      have hln1:(y.data ++ [z]).length=Lc+1:=by rw[List.length_append,List.length_singleton,HLC.o]
      have hOA:w8.ownsRow w4.heap.size 3 1 (.slice (some ⟨g8,0,none⟩) (Lc+1) c8) (y.data ++ [z]).length ((y.data ++ [z]).flatMap inC):=by rw[hfl,hln1];exact HO9.o
      have hlt4:=HQ4.o.lt;have hQA:=(SeqA.own (P:=fun b=>Q b/\b≠pb/\b≠pb+1/\b≠g/\b≠q) (N:=2*N+40) inC_len hOA (by rw[hln1];omega) (by decide) (fun z _ h1 _=>⟨HQ.o z (by omega),by omega,by omega,by omega,by omega⟩)).2;have HQA:=hd (HQ9.o.put HYJ.o {y with A:=some ⟨g8,0,none⟩,cap:=c8,data:=y.data ++ [z] } (k:=3) (v:=.slice (some ⟨g8,0,none⟩) (Lc+1) c8) (by decide) (by rw[<-hln1];rfl) ⟨hQA,hyz⟩);clear hQA hOA hlt4;go_wp2_with fail
      go_meet
      exact⟨_,hd ((HQA.o.fin (by rw[List.length_set,HL.o];omega) hqq).less (by omega))⟩
     ·skip
      go_wp2_with fail
      have HBK:Hd (∀wr,Ext [g] w4 wr->Blk wr pb 29 #[.slice (some ⟨q,0,none⟩) L cc,.slice B body.length bcap]):=hd fun wr hE=>by have:=HQ4.o.blk.ext hE (by rw[List.mem_singleton];omega);rw[HL.o] at this;exact this
      have HCK:=hd (fun(wr:World) (hE:Ext [g] w4 wr)=>own_elem bfC_len' (own_ext HQ4.o.own hE fun y hy=>by have e:q=y:=(by cases hy;rfl);rw[List.mem_singleton];omega) HYJ.o);have HQL:Hd (q<w4.heap.size/\g<w4.heap.size):=hd ⟨HQ4.o.lt.1,hgl⟩;clear qf ql;refine rgC 6 0 base g (n+1000*N+1700) [(5,sBf w4.heap.size (bufA y.name y.size y.set y.A y.data.length y.cap))] (Stays.cons (sBf.stays HQL.o.2) Stays.nil) (HQ4.o.stm.less (by omega)) ?_
      simp only[List.take_succ_cons,List.take_zero,List.drop_succ_cons,List.drop_zero]
      repeat
       refine relAt_det rfl rfl ?_
       apply Exists.intro
       refine⟨fun wr nr hJ=>?_,?_⟩
       ·have qb:=(HBK.o wr hJ.1).cell;have qbl:=(HBK.o wr hJ.1).lt;have c0:wr.cell? ⟨q,j*4,none⟩=some (.string y.name):=HCK.o wr hJ.1 0 _ rfl;have c1:wr.cell? ⟨q,j*4+1,none⟩=some (.int .i64 y.size):=HCK.o wr hJ.1 1 _ rfl;have c2:wr.cell? ⟨q,j*4+2,none⟩=some (.bool y.set):=HCK.o wr hJ.1 2 _ rfl;have c3:wr.cell? ⟨q,j*4+3,none⟩=some (.slice y.A y.data.length y.cap):=HCK.o wr hJ.1 3 _ rfl;have hqr:q<wr.heap.size:=Nat.lt_of_lt_of_le HQL.o.1 hJ.1.size;clear hJ;(go_simp;try go_bits)
        first|rfl|exact⟨rfl,rfl⟩
       simp only[Act.put,List.setIfInBounds_toArray,List.set_cons_succ,List.set_cons_zero]
      refine rel_newC (sBf w4.heap.size (bufA y.name y.size y.set y.A y.data.length y.cap)) rfl rfl ?_ ?_
      ·intro wq hE hf;refine⟨wq.heap.size,.cells (bufA y.name y.size y.set y.A y.data.length y.cap) 45,?_,by have:=hE.size;show w4.heap.size<=wq.heap.size;omega,Blk.new _ _ _⟩
       refine exec_buildSlice rfl _ wq _ _ (.agg (bufA y.name y.size y.set y.A y.data.length y.cap)) ?_ ?_
       ·rfl
       ·exact bfA_slice wq y.name y.size y.set y.A y.data.length y.cap
      intro (kb:Nat);simp only[Act.put,List.setIfInBounds_toArray,List.set_cons_succ,List.set_cons_zero];dsimp only[sBf];refine relAt_nil (fun w6 hJ hF=>?_)
      have hv:(sBf w4.heap.size (bufA y.name y.size y.set y.A y.data.length y.cap)).V kb w6:=hF 5;have HV:=hd hv.2;have HQ6:=hd ((HQ4.o.draw hJ.1 hJ.2).less (m:=n+1000*N+1700) (by omega));have hwH6:H<=w6.heap.size:=by have:=hJ.1.size;omega
      clear hJ hF hv;obtain⟨i0,hi0,hz0,hz1,hz2⟩:=bfInfo;have HLN:Hd (L<=1000):=hd (by omega);have HO6:Hd (w6.ownsRow H 45 4 (.slice (some ⟨q,0,none⟩) L cc) L (bs.flatMap bfC)):=hd (by have:=HQ6.o.own;rw[HL.o] at this;exact this);have HBB6:Hd (BfA (fun b=>Q b/\b≠pb/\b≠pb+1/\b≠g/\b≠q) (2*N+40) w6 y):=hd (HQ6.o.each y (List.mem_of_getElem? HYJ.o))
      go_wp2_with (
       refine wpList_append_lies _ rfl _ _ 26 rfl H 45 i0 _ 4 56 Tryz.underlying26 hi0 hz0 hz1 hz2 rfl (by decide) (.slice (some ⟨q,0,none⟩) L cc) L (bs.flatMap bfC) rfl HO6.o ⟨kb,0,none⟩ 1 1 (bfC y) rfl (bfC_len' _) ?c1 (bfC_one _) (by omega) ?c3 ?c4 hwH6 _ rfl ?_
       case c1=>intro i v hv;rw[Addr.add_mk,Nat.zero_add,HV.o.cell,<-Array.getElem?_toList];exact hv
       case c3=>have:=HLN.o;unfold maxLen;omega
       case c4=>have:=HLN.o;omega
       intro g8 c8 w8 ho8 hg8 hi8 ha8;have hE8:Ext [q] w6 w8:=(Ext.refl _ w6).grown hg8 fun z hz=>.inl (by cases hz;simp)
       have hi9:g8=q\/w6.heap.size<=g8:=hi8.imp (fun e=>by cases e;rfl) fun e=>Nat.le_of_eq e.symm
       have HQ8:=hd (HQ6.o.more hE8 y hi9 HBB6.o (c8:=c8) (by rw[HL.o];exact ho8));have HG8:Hd (Q g8):=hd (by rcases hi9 with e|e;exact e ▸ hqq;exact HQ.o g8 (by omega));rw[HL.o] at HQ8;have hb8:=HBK.o;have hbk8:=(HQ6.o.blk.ext hE8 (by rw[List.mem_singleton];omega));rw[HL.o] at hbk8;have qb:=hbk8.cell;have qbf:=hbk8.frozen;have qbl:=hbk8.lt;clear ho8 hg8 hi8 ha8 hE8 hi9 hb8 hbk8)
      go_meet
      exact⟨_,hd ((HQ8.o.fin (by rw[List.length_append,List.length_singleton,HL.o];omega) HG8.o).less (by omega))⟩
   case rest=>
     obtain⟨p6,HP6⟩:=hcut;clear HQ4 HY4;have qp:=HP6.o.blk.cell;have qpf:=HP6.o.blk.frozen;have qpl:=HP6.o.blk.lt;have qr:=HP6.o.res.cell;have qrf:=HP6.o.res.frozen;have qrl:=HP6.o.res.lt;unfold pgArr at qp;try dsimp only at qp
     unfold pgZ at qr;have HE9:=hd ((Ext.setAt (b:=pb+1) (i:=0) (u:=.slice p6.A p6.bs.length p6.cap) (.inl (by simp)) (Ext.refl [pb+1] wc)).trans (Ext.setAt (b:=pb+1) (i:=1) (u:=.slice p6.B p6.body.length p6.bcap) (.inl (by simp)) (Ext.refl [pb+1] _)));have HR9:=hd ((HP6.o.res.set_' 0 (.slice p6.A p6.bs.length p6.cap) #[.slice p6.A p6.bs.length p6.cap,.slice none 0 0] rfl).set_' 1 (.slice p6.B p6.body.length p6.bcap) #[.slice p6.A p6.bs.length p6.cap,.slice p6.B p6.body.length p6.bcap] rfl);go_wp2_with fail
     refine bodyPost_ret (results_cell_row rfl _ _ (pb+1) 29 _ (0,0) _ rfl HR9.o Tryz.underlying29 rfl (by kernel_rfl)) rfl ?_
     obtain⟨z1,z2,z3⟩:=HP6.o.done HE9.o;exact⟨p6,rfl,z1,hpb ▸ z2,z3⟩
end Go.Proofs.YtfppibmloloakaaGreatDoor
