import Derived.Test.YtfppibmloloakaaGreatDoorK45
namespace Go.Proofs.YtfppibmloloakaaGreatDoor
open Go.RowKit Go.Proofs.Tryz
set_option linter.all false
set_option maxHeartbeats 64000000
def Ajz:Array Value:=#[.string ⟨#[]⟩,.string ⟨#[97]⟩,.string ⟨#[65]⟩,.string ⟨#[98]⟩,.string ⟨#[97,98,99,100,101,102,103,104,105]⟩]
theorem Aib (r:Nat)(hr:r<5):∃s:ByteArray,s.size<=10/\Ajz[r]? = some (.string s):=by
 have h:r=0\/r=1\/r=2\/r=3\/r=4:=by omega
 rcases h with rfl|rfl|rfl|rfl|rfl<;>exact⟨_,by decide,rfl⟩
def SppP (Q:Nat->Prop)(M base g n:Nat)(w:World)(e:Ending)(w':World):Prop:=∃p:Pg,e=.returned (pgV p)/\PgA Q M w' p/\Ext [g] w w'/\Stm w' base g n
set_option maxRecDepth 100000 in
theorem Aj0 (P Q:Nat->Prop)(N base g n:Nat)(p:Pg)(w:World)(hPQ:∀b,P b->Q b)(hQ:∀b,w.heap.size<=b->Q b)(hPB:∀b,P b->b<w.heap.size)(hPg:¬P g)(hN:N<=500)(hp:PgA P N w p)(hS:Stm w base g (n+1000*N+2000)) :
  Calls prog 49 #[.pointer (some g),pgV p] w (SppP Q (2*N+40) base g n w):=by
 have HS:=hd hS;have hg:=hS.lt;have b3:=hS.base;have aE:=hd hPQ;have HQ:=hd hQ;have ai:=hd hPg;have ad:=hd hPB;have HP:=hd hp;clear hS hPQ hQ hPg hPB hp;obtain⟨A,cap,bs,B,bcap,body⟩:=p;have bq:bs.length<=N:=HP.o.bufs.1;have aF:body.length<=N:=HP.o.body.1;unfold pgV;dsimp only;generalize hl:bs.length=L at *;have HL:=hd hl;clear hl;go_enter func49,ntmps49
 go_upto_region 1 with fail
 have aG:=hd (((jF [g] w).alloc (.cells #[.slice A L cap,.slice B body.length bcap] 29)).alloc (.cells #[.slice none 0 0,.slice none 0 0] 29));have b4:=hd ((jK w 29 #[.slice A L cap,.slice B body.length bcap]).alloc (.cells #[.slice none 0 0,.slice none 0 0] 29));have az:=hd (jK (w.alloc (.cells #[.slice A L cap,.slice B body.length bcap] 29)) 29 pgZ);have b6:=hd ((HS.o.alloc (.cells #[.slice A L cap,.slice B body.length bcap] 29)).alloc (.cells #[.slice none 0 0,.slice none 0 0] 29));rw[Ag] at az;unfold pgZ at az;have aH:=hd (PgA.ext HP.o aG.o (fun x hx hp=>ai.o (jA.1 hx ▸ hp)));generalize World.alloc (World.alloc w _) _=w1 at *;have aI:Hd (SpG w Q (2*N+40) base g (n+1000*N+2000) (w.heap.size+1) w.heap.size ⟨A,cap,bs,B,bcap,body⟩ w1):=hd ⟨aG.o,b6.o,az.o,by unfold Lf;dsimp only;rw[HL.o];exact b4.o,aH.o.mono (fun b _ hb=>⟨aE.o b hb,by have:=ad.o b hb;omega,by have:=ad.o b hb;omega,fun e=>ai.o (e ▸ hb)⟩) (by omega),jD _,by omega,hg,b3⟩;clear aG b4 az b6 HP;generalize b2:w.heap.size=pb at *;have ap:Hd (Lf ⟨A,cap,bs,B,bcap,body⟩=#[.slice A L cap,.slice B body.length bcap]):=hd (by unfold Lf;dsimp only;rw[HL.o]);go_cut [13] (fun s wx=>∃fl:Bool,s=.bool fl/\(fl=true->0<L)/\Hd (PgA P N wx ⟨A,cap,bs,B,bcap,body⟩)/\Hd (SpG w Q (2*N+40) base g (n+1000*N+1999) (pb+1) pb ⟨A,cap,bs,B,bcap,body⟩ wx))
 case first=>
  go_wp2_with fail
  refine(Gf base g (n+1000*N+1999) 4 w1 (aI.o.stm.less (by omega)) (by omega)).mono ?_
  rintro e w2 ⟨fl,rfl,hE,hS⟩;have a1:=hd (aI.o.draw hE hS);have ae:=hd (PgA.ext aH.o hE (fun x hx hp=>ai.o (jA.1 hx ▸ hp)));clear hE hS;have qb:=a1.o.blk.cell;have af:=a1.o.blk.frozen;have aa:=a1.o.blk.lt;rw[ap.o] at qb;cases fl with
  | false=>
   go_wp2_with fail
   go_meet
   exact⟨false,rfl,by simp,ae,a1⟩
  | true=>
   by_cases hz:L=0
   ·subst hz;have h0:decide ((0:Int)<0)=false:=by decide
    go_wp2_with fail
    go_meet
    exact⟨false,rfl,by simp,ae,a1⟩
   ·have h0:decide ((0:Int)<(L:Int))=true:=decide_eq_true (by omega);go_wp2_with fail
    go_meet
    exact⟨true,congrArg Value.bool (decide_eq_true (by omega)),fun _=>by omega,ae,a1⟩
 case rest=>
  obtain⟨fl,rfl,hL,ae,a1⟩:=hcut;clear aI aH;have br:=a1.o.ext.size;have bQ:=hd br;have bR:=a1.o.stm.lt;have bS:=a1.o.res.lt;cases fl with
  | false=>
     have aq:∀z,P z\/wc.heap.size<=z->Q z/\z≠pb/\z≠pb+1/\z≠g:=fun z hz=>by
      rcases hz with hz|hz
      ·exact⟨aE.o z hz,by have:=ad.o z hz;omega,by have:=ad.o z hz;omega,fun e=>ai.o (e ▸ hz)⟩
      ·exact⟨HQ.o z (by omega),by omega,by omega,by omega⟩
     have b7:=hd aq;have HC:=hd (Ajy body P (fun b=>P b\/wc.heap.size<=b) N N base g n wc B bcap (fun b hb=>.inl hb) (fun b hb=>.inr hb) (fun b hb=>by have:=ad.o b hb;omega) ai.o (by omega) (by omega) ae.o.body ae.o.stmt (a1.o.stm.less (by omega)));clear aq;have qb:=a1.o.blk.cell;have af:=a1.o.blk.frozen;have aa:=a1.o.blk.lt;rw[ap.o] at qb;go_wp2_with fail
     refine HC.o.mono ?_
     rintro e w5 ⟨A5,c5,b5,rfl,bo,bp,hE,hS⟩;have aj:=hd (a1.o.draw hE hS);clear qb af aa hE hS HC;have qb:=aj.o.blk.cell;have af:=aj.o.blk.frozen;have aa:=aj.o.blk.lt;rw[ap.o] at qb;have a7:=hd (aj.o.set 1 (.slice A5 b5.length c5) ⟨A,cap,bs,A5,c5,b5⟩ rfl ⟨aj.o.pg.bufs,aj.o.pg.each,aj.o.pg.cap,Ao.mono bo (fun z _ hz=>b7.o z hz) (jD _),fun s hs=>StA.mono (fun z _ hz=>b7.o z hz) (jD _) (bp s hs)⟩);go_upto_region 16 with fail
     generalize World.setCell w5 _ _=w6 at *;clear qb af aa bo bp;generalize Pg.mk A cap bs A5 c5 b5=p6 at *;have qp:=a7.o.blk.cell;have bt:=a7.o.blk.frozen;have bu:=a7.o.blk.lt;have qr:=a7.o.res.cell;have bv:=a7.o.res.frozen;have bx:=a7.o.res.lt;unfold Lf at qp;try dsimp only at qp
     unfold pgZ at qr;have aJ:=hd ((jL (b:=pb+1) (i:=0) (u:=.slice p6.A p6.bs.length p6.cap) (.inl (by simp)) (jF [pb+1] w6)).trans (jL (b:=pb+1) (i:=1) (u:=.slice p6.B p6.body.length p6.bcap) (.inl (by simp)) (jF [pb+1] _)));have aK:=hd ((a7.o.res.set_' 0 (.slice p6.A p6.bs.length p6.cap) #[.slice p6.A p6.bs.length p6.cap,.slice none 0 0] rfl).set_' 1 (.slice p6.B p6.body.length p6.bcap) #[.slice p6.A p6.bs.length p6.cap,.slice p6.B p6.body.length p6.bcap] rfl);go_wp2_with fail
     refine bodyPost_ret (results_cell_row rfl _ _ (pb+1) 29 _ (0,0) _ rfl aK.o underlying29 rfl (by kernel_rfl)) rfl ?_
     obtain⟨z1,z2,z3⟩:=a7.o.done aJ.o;exact⟨p6,rfl,z1,b2 ▸ z2,z3⟩
  | true=>
   have b8:=hL rfl;have qb:=a1.o.blk.cell;have af:=a1.o.blk.frozen;have aa:=a1.o.blk.lt;rw[ap.o] at qb;have HC:=hd (Ah4 P N A L cap bs wc ae.o.bufs HL.o (by omega));go_wp2_with fail
   refine HC.o.mono ?_
   rintro e w5 ⟨v,rfl,ho,hE⟩;obtain⟨cA,cc,rfl,-,bm⟩:=Bg ho;obtain⟨q,rfl,c9,ca⟩:=bm b8;generalize hH:wc.heap.size=H at *;have ab:=hd hE;have an:=hd ho;have ao:=hd (a1.o.blk.ext hE (by simp));rw[ap.o] at ao;clear qb af aa ho hE HC bm;have qb:=ao.o.cell;have af:=ao.o.frozen;have aa:=ao.o.lt;have au:Q q:=HQ.o q (by omega)
   have a2:Hd (SpB w Q (2*N+40) base g (n+1000*N+1999) (pb+1) pb H q cc B bcap body bs (w5.setCell ⟨pb,0,none⟩ (.slice (some q) L cc))):=hd (by
    have aw:Ext [pb] w5 (w5.setCell ⟨pb,0,none⟩ (.slice (some q) L cc)):=jL (.inl (by simp)) (jF _ _);have hP:∀x∈[pb],¬P x:=fun x hx hp=>by have:=ad.o x hp;rw[jA.1 hx] at this;omega
    have aL:∀b,P b->Q b/\b≠pb/\b≠pb+1/\b≠g/\b≠q:=fun b hb=>⟨aE.o b hb,by have:=ad.o b hb;omega,by have:=ad.o b hb;omega,fun e=>ai.o (e ▸ hb),by have:=ad.o b hb;omega⟩
    have hX:=(ae.o.ext ab.o (by simp)).ext aw hP
    refine⟨(a1.o.ext.trans ab.o.nil).step aw fun x hx=>.inr (by rw[jA.1 hx,b2];exact jD _),(a1.o.stm.ext ab.o (by simp) (by simp)).ext aw (by rw[jA];omega) (fun x hx=>by rw[jA.1 hx];omega),(a1.o.res.ext ab.o (by simp)).ext aw (by rw[jA];omega),?_,?_,
     fun b hb=>BfA.mono (fun b _ h=>aL b h) (by omega) (hX.each b hb),Ao.mono hX.body (fun b _ h=>aL b h) (by omega),fun s hs=>StA.mono (fun b _ h=>aL b h) (by omega) (hX.stmt s hs),by omega,by omega,by omega,by omega,b3⟩
    ·rw[HL.o];exact ao.o.set_' 0 _ _ rfl
    ·rw[HL.o];exact Ah an.o aw fun y hy=>by have e:q=y:=(by cases hy;rfl);rw[jA];omega)
   have ba:Hd (PgA P N (w5.setCell ⟨pb,0,none⟩ (.slice (some q) L cc)) ⟨A,cap,bs,B,bcap,body⟩):=hd ((ae.o.ext ab.o (by simp)).ext (jL (S:=[pb]) (.inl (by simp)) (jF _ _)) fun x hx hp=>by have:=ad.o x hp;rw[jA.1 hx] at this;omega);have bT:H<=w5.heap.size:=by have:=ab.o.size;omega
   go_upto_region 3 with fail
   have bU:(w5.setCell ⟨pb,0,none⟩ (.slice (some q) L cc)).heap.size=w5.heap.size:=by simp
   generalize World.setCell w5 _ _=w6 at *;clear qb af aa ab an ao a1 ae;have bb:=hd (And.intro b8 (show L<=N from bq));have ak:Hd (∀wr,Ext [g] w6 wr->Blk wr pb 29 #[.slice (some q) L cc,.slice B body.length bcap]):=hd fun wr hE=>by have:=a2.o.blk.ext hE (by rw[jA];omega);rw[HL.o] at this;exact this
   refine rgC 7 1 base g (n+1000*N+1900) [(6,Fs L)] (Am.cons Fs.stays Am.nil) (a2.o.stm.less (by omega)) ?_
   simp only[TK]
   repeat(refine dE (fun wr nr hJ=>by(have qb:=(ak.o wr hJ.1).cell;have aa:=(ak.o wr hJ.1).lt);clear hJ;exact CL) ?_;simp only[PT])
   refine Bz (Fs L) rfl rfl ?_ ?_
   ·refine EC fun wr m hE hS hm hf=>?_
    refine(Cb base g m (L:Int) wr hS (by have:=bb.o.2;omega)).mono ?_
    rintro e w' ⟨r,rfl,hr,bN,bO⟩;exact⟨r,rfl,⟨hr.1,hr.2 (by have:=bb.o.1;omega)⟩,bN,bO⟩
   intro (j0:Int);simp only[PT];dsimp only[Fs];refine Aj (fun w7 hJ hF=>?_)
   have bz:0<=j0/\j0<L:=hF 6;obtain⟨j,rfl⟩:∃j:Nat,j0=j:=⟨j0.toNat,by omega⟩;have hj:j<L:=by omega
   have bV:(j:Int)<L:=by omega
   obtain⟨y,hy⟩:∃y,bs[j]? = some y:=⟨_,jJ (by rw[HL.o];exact hj)⟩;have a8:=hd hy;have ag:=hd ((a2.o.draw hJ.1 hJ.2).less (m:=n+1000*N+1900) (by omega));have bc:=hd (BfA.ext hJ.1 (fun x hx hp=>ai.o (jA.1 hx ▸ hp)) (ba.o.each y (ilm hy)));have bW:=hJ.1.size;clear hJ hF bz a2 ba ak hy;go_upto_region 4 with fail
   go_wp2_with fail
   refine(Cb base g (n+1000*N+1800) 5 w7 (ag.o.stm.less (by omega)) (by omega)).mono ?_
   rintro e w4 ⟨r,rfl,hr,hE,hS⟩;have a6:=hd (ag.o.draw hE hS);have aA:=hd (BfA.ext hE (fun x hx hp=>ai.o (jA.1 hx ▸ hp)) bc.o);have aM:r=0\/r=1\/r=2\/r=3\/r=4:=by omega
   have bX:=hE.size;have aN:y.name.size<=2*N+40:=by have:=aA.o.2;omega
   clear hE hS hr ag bc;go_upto_block 0 with fail
   go_cut [] (fun wx=>∃p':Pg,Hd (SpG w Q (2*N+40) base g n (pb+1) pb p' wx))
   case first=>
     have qf:=a6.o.frozen;have ql:=a6.o.lt.1;have bA:g<w4.heap.size:=a6.o.lt.2.1;have bd:=(a6.o.each y (ilm a8.o)).1;have bB:=hd bd;clear bd;rcases aM with rfl|rfl|rfl|rfl|rfl
     ·skip
      have HN:=hd (jK w4 9 Ajz);have al:Ext [] w4 (w4.alloc (.cells Ajz 9)):=(jF _ _).alloc _;have ah:=hd (a6.o.draw al.nil (a6.o.stm.ext al (by simp) (by simp)));clear al;unfold Ajz at HN ah;go_wp2_with fail
      refine(Cb base g (n+900) 5 _ (ah.o.stm.less (by omega)) (by omega)).mono ?_
      rintro e w6 ⟨r1,rfl,bP,hE,hS⟩;have a2:=hd (ah.o.draw hE hS);have aO:=hd (HN.o.ext hE (by rw[jA];omega));obtain⟨r,rfl⟩:∃r:Nat,r1=r:=⟨r1.toNat,by omega⟩;have aM:r<5:=by omega
      have bY:(r:Int)<5:=by omega
      obtain⟨z,hs,bn⟩:=Aib r aM;have bZ:w4.heap.size<w6.heap.size:=aO.o.lt;have cs:w6.cell? ⟨w4.heap.size,r,none⟩=some (.string z):=by rw[aO.o.cell];exact bn
      clear qf ql hE hS HN ah bP bn aO;have ck:w6.cell? ⟨q,j*4,none⟩=some (.string y.name):=a2.o.cell a8.o 0 _ rfl;have qf:=a2.o.frozen;have ql:=a2.o.lt.1;have ag:=hd (a2.o.put a8.o {y with name:=z } (k:=0) (v:=.string z) (by decide) rfl ⟨(a2.o.each y (ilm a8.o)).1,nt hs (by omega)⟩);go_wp2_with fail
      go_meet
      exact⟨_,hd ((ag.o.fin (by rw[List.length_set,HL.o];omega) au).less (by omega))⟩
     ·skip
      have HN:=hd (jK w4 3 (Cj [0,-1,262144,262145,1]));have al:Ext [] w4 (w4.alloc (.cells (Cj [0,-1,262144,262145,1]) 3)):=(jF _ _).alloc _;have ah:=hd (a6.o.draw al.nil (a6.o.stm.ext al (by simp) (by simp)));clear al;simp only[Cj,List.map_cons,List.map_nil] at HN ah;go_wp2_with fail
      refine(Cc base g (n+900) w4.heap.size 5 3 [0,-1,262144,262145,1] _ (ah.o.stm.less (by omega)) HN.o (by omega) (by decide)).mono ?_
      rintro e w6 ⟨z,rfl,-,hE,hS⟩;have a2:=hd (ah.o.draw hE hS);clear qf ql hE hS HN ah;have ck:w6.cell? ⟨q,j*4+1,none⟩=some (.int .i64 y.size):=a2.o.cell a8.o 1 _ rfl;have qf:=a2.o.frozen;have ql:=a2.o.lt.1;have ag:=hd (a2.o.put a8.o {y with size:=z } (k:=1) (v:=z) (by decide) rfl ⟨(a2.o.each y (ilm a8.o)).1,aN⟩);go_wp2_with fail
      go_meet
      exact⟨_,hd ((ag.o.fin (by rw[List.length_set,HL.o];omega) au).less (by omega))⟩
     ·skip
      have ck:w4.cell? ⟨q,j*4+2,none⟩=some (.bool y.set):=a6.o.cell a8.o 2 _ rfl;have ag:=hd (a6.o.put a8.o {y with set:=!y.set } (k:=2) (v:=.bool (!y.set)) (by decide) rfl ⟨bB.o,aN⟩);go_wp2_with fail
      go_meet
      exact⟨_,hd ((ag.o.fin (by rw[List.length_set,HL.o];omega) au).less (by omega))⟩
     ·skip
      have ck:w4.cell? ⟨q,j*4+3,none⟩=some (.slice y.A y.data.length y.cap):=a6.o.cell a8.o 3 _ rfl;have c6:y.data.length<=N:=aA.o.1.1;have HC:=hd (Ah5 P N y.A y.data.length y.cap y.data w4 aA.o.1 rfl (by omega));generalize aF:y.data.length=Lc at *;have bC:=hd aF;clear aF;go_wp2_with fail
      refine HC.o.mono ?_
      rintro e w5 ⟨v,rfl,ho,hE⟩;obtain⟨dA,dc,rfl,-,-⟩:=Bg ho;have an:=hd ho;have ab:Hd (Ext [g] w4 w5):=hd hE.nil;have be:=hd (a6.o.stm.ext hE (by simp) (by simp));clear ho hE HC;have HN:=hd (jK w5 3 (Cj [1,2147483648]));have ax:=hd ((jF [] w5).alloc (.cells (Cj [1,2147483648]) 3));have aP:=hd (be.o.ext ax.o (by simp) (by simp));have aQ:=ab.o.size;simp only[Cj,List.map_cons,List.map_nil] at HN ax aP;go_wp2_with fail
      refine(Cc base g (n+800) w5.heap.size 2 3 [1,2147483648] _ (aP.o.less (by omega)) HN.o (by omega) (by decide)).mono ?_
      rintro e wz ⟨z,rfl,-,hE,hS⟩;have bf:=hd ((ab.o.trans ax.o.nil).trans hE);have bD:=hd hS;have bE:=hd (Ah (Ah an.o ax.o (by simp)) hE fun x hx=>by have:=Ad an.o x hx;rw[jA];omega);clear hE hS HN ax aP ab be an aQ;have aR:=hd ((jF [] wz).alloc (.cells #[z] 3));have bh:=hd (Ah bE.o aR.o (by simp));have bF:=hd (jK wz 3 #[z]);have bG:Hd (w4.heap.size<=(wz.alloc (.cells #[z] 3)).heap.size):=hd (nt bf.o.size aR.o.size);have ay:Hd (Lc<=1000):=hd (by omega);obtain⟨i0,aY,aZ,b0,b1⟩:=Ht;clear ck qf ql
      go_wp2_with (
       refine wpList_append_lies _ rfl _ _ 22 rfl w4.heap.size 3 i0 _ 1 8 underlying22 aY aZ b0 b1 rfl (by decide) (.slice dA Lc dc) Lc (y.data.flatMap inC) rfl bh.o ⟨wz.heap.size,0,none⟩ 1 1 (inC z) rfl (Os _) ?c1 (Adf _) (by omega) ?c3 ?c4 bG.o _ rfl ?_
       case c1=>intro i v hv;rw[Addr.add_mk,Nat.zero_add,bF.o.cell,<-Array.getElem?_toList];exact hv
       case c3=>have:=ay.o;unfold maxLen;omega
       case c4=>have:=ay.o;omega
       intro g8 c8 w8 ho8 hg8 hi8 ha8;have bH:=hd ho8;have aS:Ext (Value.slice dA Lc dc).ownBlock.toList wz w8:=(aR.o.nil).step ((jF _ _).grown hg8 fun q hq=>.inl (jC.2 hq)) fun x hx=>.inl hx
       have aB:∀x∈(Value.slice dA Lc dc).ownBlock.toList,w4.heap.size<=x:=fun x hx=>Ad bh.o x (jC.1 hx)
       have aC:=hd (a6.o.draw (bf.o.step aS fun x hx=>.inr (aB x hx)) (bD.o.ext aS (fun hm=>by have:=aB _ hm;omega) (fun x hx=>by have:=aB x hx;omega)));clear ho8 hg8 hi8 ha8 aS aB;have ck:w8.cell? ⟨q,j*4+3,none⟩=some (.slice y.A y.data.length y.cap):=aC.o.cell a8.o 3 _ rfl;have qf:=aC.o.frozen;have ql:=aC.o.lt.1)
      have bI:(y.data ++ [z]).flatMap inC=y.data.flatMap inC ++ inC z:=by rw[List.flatMap_append];simp
      have am:(y.data ++ [z]).length=Lc+1:=by rw[jG,jS,bC.o]
      have bi:w8.ownsRow w4.heap.size 3 1 (.slice (some g8) (Lc+1) c8) (y.data ++ [z]).length ((y.data ++ [z]).flatMap inC):=by rw[bI,am];exact bH.o
      have aT:=a6.o.lt;have bj:=(Ao.own (P:=fun b=>Q b/\b≠pb/\b≠pb+1/\b≠g/\b≠q) (N:=2*N+40) Os bi (by rw[am];omega) (by decide) (fun z _ h1 _=>⟨HQ.o z (by omega),by omega,by omega,by omega,by omega⟩)).2;have bJ:=hd (aC.o.put a8.o {y with A:=some g8,cap:=c8,data:=y.data ++ [z] } (k:=3) (v:=.slice (some g8) (Lc+1) c8) (by decide) (by rw[<-am];rfl) ⟨bj,aN⟩);clear bj bi aT;go_wp2_with fail
      go_meet
      exact⟨_,hd ((bJ.o.fin (by rw[List.length_set,HL.o];omega) au).less (by omega))⟩
     ·skip
      go_wp2_with fail
      have ak:Hd (∀wr,Ext [g] w4 wr->Blk wr pb 29 #[.slice (some q) L cc,.slice B body.length bcap]):=hd fun wr hE=>by have:=a6.o.blk.ext hE (by rw[jA];omega);rw[HL.o] at this;exact this
      have aD:=hd (fun(wr:World) (hE:Ext [g] w4 wr)=>Ou Ml (Ah a6.o.own hE fun y hy=>by have e:q=y:=(by cases hy;rfl);rw[jA];omega) a8.o);have bk:Hd (q<w4.heap.size/\g<w4.heap.size):=hd ⟨a6.o.lt.1,bA⟩;clear qf ql;refine rgC 6 0 base g (n+1000*N+1700) [(5,sBf w4.heap.size (Hy y.name y.size y.set y.A y.data.length y.cap))] (Am.cons (sBf.stays bk.o.2) Am.nil) (a6.o.stm.less (by omega)) ?_
      simp only[TK]
      repeat(refine dE (fun wr nr hJ=>by(have qb:=(ak.o wr hJ.1).cell;have aa:=(ak.o wr hJ.1).lt;have c0:wr.cell? ⟨q,j*4,none⟩=some (.string y.name):=aD.o wr hJ.1 0 _ rfl;have c1:wr.cell? ⟨q,j*4+1,none⟩=some (.int .i64 y.size):=aD.o wr hJ.1 1 _ rfl;have c2:wr.cell? ⟨q,j*4+2,none⟩=some (.bool y.set):=aD.o wr hJ.1 2 _ rfl;have c3:wr.cell? ⟨q,j*4+3,none⟩=some (.slice y.A y.data.length y.cap):=aD.o wr hJ.1 3 _ rfl;have c7:q<wr.heap.size:=nl bk.o.1 hJ.1.size);clear hJ;exact CL) ?_;simp only[PT])
      refine Ew (sBf w4.heap.size (Hy y.name y.size y.set y.A y.data.length y.cap)) rfl rfl ?_ ?_
      ·intro wq hE hf;refine⟨wq.heap.size,.cells (Hy y.name y.size y.set y.A y.data.length y.cap) 45,?_,by have:=hE.size;show w4.heap.size<=wq.heap.size;omega,jK _ _ _⟩
       refine As rfl _ wq _ _ (.agg (Hy y.name y.size y.set y.A y.data.length y.cap)) ?_ ?_
       ·rfl
       ·exact Po wq y.name y.size y.set y.A y.data.length y.cap
      intro (kb:Nat);simp only[PT];dsimp only[sBf];refine Aj (fun w6 hJ hF=>?_)
      have hv:(sBf w4.heap.size (Hy y.name y.size y.set y.A y.data.length y.cap)).V kb w6:=hF 5;have HV:=hd hv.2;have a2:=hd ((a6.o.draw hJ.1 hJ.2).less (m:=n+1000*N+1700) (by omega));have aU:H<=w6.heap.size:=by have:=hJ.1.size;omega
      clear hJ hF hv;obtain⟨i0,aY,aZ,b0,b1⟩:=To;have ay:Hd (L<=1000):=hd (by omega);have bK:Hd (w6.ownsRow H 45 4 (.slice (some q) L cc) L (bs.flatMap bfC)):=hd (by have:=a2.o.own;rw[HL.o] at this;exact this);have aV:Hd (BfA (fun b=>Q b/\b≠pb/\b≠pb+1/\b≠g/\b≠q) (2*N+40) w6 y):=hd (a2.o.each y (ilm a8.o))
      go_wp2_with (
       refine wpList_append_lies _ rfl _ _ 26 rfl H 45 i0 _ 4 56 underlying26 aY aZ b0 b1 rfl (by decide) (.slice (some q) L cc) L (bs.flatMap bfC) rfl bK.o ⟨kb,0,none⟩ 1 1 (bfC y) rfl (Ml _) ?c1 (Rd _) (by omega) ?c3 ?c4 aU _ rfl ?_
       case c1=>intro i v hv;rw[Addr.add_mk,Nat.zero_add,HV.o.cell,<-Array.getElem?_toList];exact hv
       case c3=>have:=ay.o;unfold maxLen;omega
       case c4=>have:=ay.o;omega
       intro g8 c8 w8 ho8 hg8 hi8 ha8;have aW:Ext [q] w6 w8:=(jF _ w6).grown hg8 fun z hz=>.inl (by cases hz;simp)
       have aX:g8=q\/w6.heap.size<=g8:=hi8.imp (fun e=>by cases e;rfl) fun e=>Nat.le_of_eq e.symm
       have bl:=hd (a2.o.more aW y aX aV.o (c8:=c8) (by rw[HL.o];exact ho8));have bL:Hd (Q g8):=hd (by rcases aX with e|e;exact e ▸ au;exact HQ.o g8 (by omega));rw[HL.o] at bl;have bM:=ak.o;have ac:=(a2.o.blk.ext aW (by rw[jA];omega));rw[HL.o] at ac;have qb:=ac.cell;have af:=ac.frozen;have aa:=ac.lt;clear ho8 hg8 hi8 ha8 aW aX bM ac)
      go_meet
      exact⟨_,hd ((bl.o.fin (by rw[jG,jS,HL.o];omega) bL.o).less (by omega))⟩
   case rest=>
     obtain⟨p6,a7⟩:=hcut;clear a6 aA;have qp:=a7.o.blk.cell;have bt:=a7.o.blk.frozen;have bu:=a7.o.blk.lt;have qr:=a7.o.res.cell;have bv:=a7.o.res.frozen;have bx:=a7.o.res.lt;unfold Lf at qp;try dsimp only at qp
     unfold pgZ at qr;have aJ:=hd ((jL (b:=pb+1) (i:=0) (u:=.slice p6.A p6.bs.length p6.cap) (.inl (by simp)) (jF [pb+1] wc)).trans (jL (b:=pb+1) (i:=1) (u:=.slice p6.B p6.body.length p6.bcap) (.inl (by simp)) (jF [pb+1] _)));have aK:=hd ((a7.o.res.set_' 0 (.slice p6.A p6.bs.length p6.cap) #[.slice p6.A p6.bs.length p6.cap,.slice none 0 0] rfl).set_' 1 (.slice p6.B p6.body.length p6.bcap) #[.slice p6.A p6.bs.length p6.cap,.slice p6.B p6.body.length p6.bcap] rfl);go_wp2_with fail
     refine bodyPost_ret (results_cell_row rfl _ _ (pb+1) 29 _ (0,0) _ rfl aK.o underlying29 rfl (by kernel_rfl)) rfl ?_
     obtain⟨z1,z2,z3⟩:=a7.o.done aJ.o;exact⟨p6,rfl,z1,b2 ▸ z2,z3⟩
section
attribute [local irreducible] Bj
theorem Acb (n:Nat)(hn:n<=1152921504606846976)(A:Option Addr)(len cap:Nat)(w:World)(hlen:len<=9223372036854775807)(hA:0<len->∃b o,A=some ⟨b,o,none⟩/\b<w.heap.size/\∀i,i<len->∃x,w.cell? ⟨b,o+i,none⟩=some (.int .i64 x)) :
  Stm (w.alloc (.cells #[.slice A len cap,(0:Int)] 25)) w.heap.size w.heap.size n:=
 ⟨A,len,cap,0,jK _ _ _,jD _,Int.le_refl _,by omega,hlen,fun h=>by
  obtain⟨b,o,h1,h2,h3⟩:=hA h;refine⟨b,o,h1,h2,fun i hi=>?_⟩
  obtain⟨x,hx⟩:=h3 i hi;exact⟨x,((jF [] w).alloc _).held hx (by simp)⟩⟩
structure LsG (w:World)(base g n rb vb N:Nat)(p:Pg)(wx:World):Prop where
 ext:Ext [g] w wx
 stm:Stm wx base g n
 res:Blk wx rb 29 pgZ
 blk:Blk wx vb 29 (Lf p)
 pg:PgA (fun b=>rb<b/\b≠vb) N wx p
 rb0:w.heap.size<=rb
 rbv:rb<vb
 g0:g<w.heap.size
 bg:base<=g
section
variable {w wx wy:World} {base g n m rb vb N:Nat} {p:Pg}
theorem LsG.draw (s:LsG w base g n rb vb N p wx)(hE:Ext [g] wx wy)(hS:Stm wy base g m):LsG w base g m rb vb N p wy:=by
 have h0:=s.g0;have h1:=s.rb0;have h2:=s.rbv;exact⟨s.ext.trans hE,hS,s.res.ext hE (by rw[jA];omega),s.blk.ext hE (by rw[jA];omega),s.pg.ext hE fun x hx hh=>by rw[jA.1 hx] at hh;omega,s.rb0,s.rbv,s.g0,s.bg⟩
theorem LsG.less (s:LsG w base g n rb vb N p wx)(hm:m<=n):LsG w base g m rb vb N p wx:=⟨s.ext,s.stm.less hm,s.res,s.blk,s.pg,s.rb0,s.rbv,s.g0,s.bg⟩
theorem LsG.lay (s:LsG w base g n rb vb N p wx){M:Nat}(p':Pg)(h:PgA (fun b=>rb<b/\b≠vb) M wx p'):LsG w base g n rb vb M p' ((wx.setCell ⟨vb,0,none⟩ (.slice p'.A p'.bs.length p'.cap)).setCell ⟨vb,1,none⟩ (.slice p'.B p'.body.length p'.bcap)):=by
 have h0:=s.g0;have h1:=s.rb0;have h2:=s.rbv;have h3:=s.bg;have hE:Ext [vb] wx ((wx.setCell ⟨vb,0,none⟩ (.slice p'.A p'.bs.length p'.cap)).setCell ⟨vb,1,none⟩ (.slice p'.B p'.body.length p'.bcap)):=(jL (.inl (by simp)) (jF _ _)).trans (jL (.inl (by simp)) (jF _ _))
 exact⟨s.ext.step hE fun x hx=>.inr (by rw[jA.1 hx];omega),s.stm.ext hE (by rw[jA];omega) (fun x hx=>by rw[jA.1 hx];omega),s.res.ext hE (by rw[jA];omega),(s.blk.set_' 0 (.slice p'.A p'.bs.length p'.cap) #[.slice p'.A p'.bs.length p'.cap,.slice p.B p.body.length p.bcap] rfl).set_' 1 _ _ rfl,
  h.ext hE fun x hx hh=>hh.2 (jA.1 hx),s.rb0,s.rbv,s.g0,s.bg⟩
end
def LsP (base g n:Nat)(w:World)(e:Ending)(w':World):Prop:=∃p:Pg,e=.returned (pgV p)/\PgA (fun b=>w.heap.size<=b) 300 w' p/\Ext [g] w w'/\Stm w' base g n
set_option maxRecDepth 100000 in
theorem Ae7 (base g n:Nat)(w:World)(hS:Stm w base g (n+BD 3+2000000)):Calls prog 21 #[.pointer (some g)] w (LsP base g n w):=by
 have HS:=hd hS;have hg:=hS.lt;have an:=hS.base;clear hS;go_enter func21,ntmps21
 go_upto_region 1 with fail
 have ag:=hd ((jF [] w).alloc (.cells #[.slice none 0 0,.slice none 0 0] 29));have a2:=hd (jK w 29 pgZ);have ah:=hd (HS.o.alloc (.cells #[.slice none 0 0,.slice none 0 0] 29));unfold pgZ at a2;generalize World.alloc w _=w1 at *;generalize aC:w.heap.size=rb at *;have aw:rb<w1.heap.size:=a2.o.lt;go_wp2_with fail
 refine(Ot base g (n+1000000) w1 (ah.o.less (by omega))).mono ?_
 rintro e w2 ⟨p0,rfl,hp,hE,hS⟩;have ax:=hE.size;have ai:=hd (PgA.mono hp (Q:=fun b=>rb<b/\b≠w2.heap.size) (fun b hb h=>⟨by omega,by omega⟩) (jD _));have aj:=hd (ag.o.nil.trans hE);have ak:=hd (a2.o.ext hE (by rw[jA];omega));have al:=hd hS;clear hp hE hS ag a2 ah;unfold pgV;go_upto_region 2 with fail
 have a6:Hd (LsG w base g (n+1000000) rb w2.heap.size 30 p0 (w2.alloc (.cells #[.slice p0.A p0.bs.length p0.cap,.slice p0.B p0.body.length p0.bcap] 29))):=hd (by
  have a7:=(jF [] w2).alloc (.cells #[.slice p0.A p0.bs.length p0.cap,.slice p0.B p0.body.length p0.bcap] 29);exact⟨aj.o.trans a7.nil,al.o.ext a7 (by simp) (by simp),ak.o.ext a7 (by simp),jK _ _ _,ai.o.ext a7 (by simp),by omega,by omega,by omega,an⟩)
 generalize aD:w2.heap.size=vb at *;generalize World.alloc w2 _=w3 at *;clear ai aj ak al;have ay:g<w3.heap.size:=a6.o.stm.lt;have HN:=hd (jK w3 3 (Cj [0,1,1,2]));have ab:Ext [] w3 (w3.alloc (.cells (Cj [0,1,1,2]) 3)):=(jF _ _).alloc _;have a8:=hd (a6.o.draw ab.nil (a6.o.stm.ext ab (by simp) (by simp)));clear ab;simp only[Cj,List.map_cons,List.map_nil] at HN a8;go_wp2_with fail
 refine(Cc base g (n+999000) w3.heap.size 4 3 [0,1,1,2] _ (a8.o.stm.less (by omega)) HN.o (by omega) (by decide)).mono ?_
 rintro e w6 ⟨y,rfl,hy,hE,hS⟩;have ao:=hd (a8.o.draw hE hS);have az:0<=y/\y<=2:=by simp at hy;omega
 obtain⟨cnt,rfl⟩:∃k:Nat,y=k:=⟨y.toNat,by omega⟩;clear hE hS HN a8 a6 hy;go_wp2_with fail
 go_loopw [9] (fun i wr=>∃(k N:Nat) (p:Pg),i=.int .i64 k/\k<=cnt/\((k=0/\N=30)\/(k=1/\N=100)\/(k=2/\N=240))/\Hd (LsG w base g (n+900000-400000*k) rb vb N p wr)) (fun i _=>(cnt-intOf i).toNat)
 case atStart=>exact⟨0,30,p0,rfl,jQ _,.inl ⟨rfl,rfl⟩,hd (ao.o.less (by omega))⟩
 case round=>
  obtain⟨k,N,p,rfl,hk,hN,a1⟩:=hrel;by_cases aE:k<cnt
  ·have ac:(k:Int)<cnt:=by omega
   have ap:N<=500:=by omega
   have HC:=hd (Aj0 (fun b=>(rb<b/\b≠vb)/\b<wr.heap.size) (fun b=>rb<b/\b≠vb) N base g (n+900000-400000*(k+1)) p wr (fun b h=>h.1) (fun b h=>⟨by have:=a1.o.blk.lt;have:=a1.o.rbv;omega,by have:=a1.o.blk.lt;omega⟩) (fun b h=>h.2) (fun h=>by have:=a1.o.g0;have:=a1.o.rb0;have:=h.1.1;omega) ap (a1.o.pg.mono (fun b hb h=>⟨h,hb⟩) (jD _)) (a1.o.stm.less (by omega)));unfold pgV at HC;have qp:=a1.o.blk.cell;have ad:=a1.o.blk.frozen;have ae:=a1.o.blk.lt;unfold Lf at qp;go_wp2_with fail
   refine HC.o.mono ?_
   rintro e w7 ⟨p',rfl,am,hE,hS⟩;have aa:=hd (a1.o.draw hE hS);have aq:=hd (aa.o.lay p' am);clear hE hS am HC qp ad ae;have qp:=aa.o.blk.cell;have ad:=aa.o.blk.frozen;have ae:=aa.o.blk.lt;unfold Lf at qp;unfold pgV;go_wp2_with fail
   go_roundw
   case rel=>exact⟨k+1,2*N+40,p',by go_num,by omega,by omega,aq⟩
   case measure=>simp[intOf];omega
  ·have ac:¬(k:Int)<cnt:=by omega
   have qp:=a1.o.blk.cell;have ad:=a1.o.blk.frozen;have ae:=a1.o.blk.lt;have qr:=a1.o.res.cell;have aA:=a1.o.res.frozen;have aB:=a1.o.res.lt;unfold Lf at qp;unfold pgZ at qr;have af:=hd ((jL (b:=rb) (i:=0) (u:=.slice p.A p.bs.length p.cap) (.inl (by simp)) (jF [rb] wr)).trans (jL (b:=rb) (i:=1) (u:=.slice p.B p.body.length p.bcap) (.inl (by simp)) (jF [rb] _)));have au:=hd ((a1.o.res.set_' 0 (.slice p.A p.bs.length p.cap) #[.slice p.A p.bs.length p.cap,.slice none 0 0] rfl).set_' 1 (.slice p.B p.body.length p.bcap) #[.slice p.A p.bs.length p.cap,.slice p.B p.body.length p.bcap] rfl);go_wp2_with fail
   refine bodyPost_ret (results_cell_row rfl _ _ rb 29 _ (0,0) _ rfl au.o underlying29 rfl (by kernel_rfl)) rfl ?_
   have h0:=a1.o.g0;have h1:=a1.o.rb0;have h2:=a1.o.rbv;exact⟨p,rfl,(a1.o.pg.ext af.o fun x hx hh=>by rw[jA.1 hx] at hh;omega).mono (fun b _ hb=>by omega) (by omega),a1.o.ext.step af.o fun x hx=>.inr (by rw[jA.1 hx];omega),(a1.o.stm.ext af.o (by rw[jA];omega) (fun x hx=>by rw[jA.1 hx];omega)).less (by omega)⟩
end
section
def hsV (b c:Nat):SH:=⟨3,⟨#[]⟩,0,0,0,false,none,0,[],none,0,1,afI b,.mk (exI c) []⟩
def hfV (s:Nat):SH:=⟨1,nmI,0,4,1,false,none,0,[],some s,1,0,afZ,.mk exZ []⟩
def bsV:List Bf:=[⟨⟨#[97]⟩,4,true,none,0,[]⟩,⟨⟨#[98]⟩,4,false,none,0,[]⟩]
def Aaa (b c s a f:Nat):Pg:=⟨some a,2,bsV,some f,1,[.mk (hfV s) [.mk (hsV b c) []]]⟩
theorem Ae8 (w:World):(Instr.buildSlice 26 2 #[(0,.agg #[.string ⟨#[97]⟩,(4:Int),.bool true,.slice none 0 0]),(1,.agg #[.string ⟨#[98]⟩,(4:Int),.bool false,.slice none 0 0])]).run prog w=.ok (.slice (some w.heap.size) 2 2) (w.alloc (.cells #[.string ⟨#[97]⟩,(4:Int),.bool true,.slice none 0 0,.string ⟨#[98]⟩,(4:Int),.bool false,.slice none 0 0] 45)):=by kernel_rfl
theorem Pq {α:Type}{P:Nat->Prop}{N:Nat}{w:World}{b k:Nat}{cs:α->List Value}{x:α}(hN:1<=N)(hP:P b)(hb:b<w.heap.size)(h:∀(j:Nat) (v:Value),(cs x)[j]? = some v->w.cell? ⟨b,j,none⟩=some v):Ao P N w (some b) k cs [x]:=⟨by simpa using hN,.inr ⟨b,rfl,hP,hb,fun i y hy j v hv=>by
 have hi:=(ils hy).1;simp only[jS] at hi;have:i=0:=by omega
 subst this;cases hy
 rw[Nat.zero_mul,Nat.zero_add];exact h j v hv⟩⟩
theorem Akz {P:Nat->Prop}{w:World}{b c s a f:Nat}(hT:Blk w b 178 #[.string ⟨#[105]⟩,(1:Int)])(hU:Blk w c 178 #[.string ⟨#[105]⟩,(1:Int)])(hS:Blk w s 43 (Ai (hsV b c) 0 (exI c) 0))
  (hA:Blk w a 45 #[.string ⟨#[97]⟩,(4:Int),.bool true,.slice none 0 0,.string ⟨#[98]⟩,(4:Int),.bool false,.slice none 0 0]) (hF:Blk w f 43 (Ai (hfV s) 1 exZ 0)) (pb:P b) (pc:P c) (ps:P s) (pa:P a) (pf:P f):PgA P 300 w (Aaa b c s a f):=by
 have a1:∀z,P z->Blk w z 178 #[.string ⟨#[105]⟩,(1:Int)]->∀M,1<=M->AfA P M w (afI z):=fun z pz hz M hM=>Pq hM pz hz.lt fun j v hv=>by
  rw[hz.cell];simpa[tmC,nmI] using hv
 have hs:StA P 299 w (.mk (hsV b c) []):=.mk _ _ (Ao.nil ..) (fun a h=>by simp[hsV] at h) (a1 b pb hT _ (by decide)) (.mk _ _ (a1 c pc hU _ (by decide)) (Ao.nil ..) (fun e h=>by simp at h)) (by simp[hsV,Al,Ap]) (by show(⟨#[]⟩:ByteArray).size<=299;decide) (by decide) (Ao.nil ..) (fun s h=>by simp at h);refine⟨⟨by simp[Aaa,bsV],.inr ⟨a,rfl,pa,hA.lt,fun i x hx j v hv=>?_⟩⟩,fun x hx=>?_,⟨by simp[Aaa,bsV],by simp[Aaa]⟩,Pq (by decide) pf hF.lt fun j v hv=>?_,fun x hx=>?_⟩
 ·rw[hA.cell];have hi:=(ils hx).1;simp only[Aaa,bsV,List.length_cons,List.length_nil] at hi;have a2:i=0\/i=1:=by omega
  have hj:=(ils hv).1;simp only[bfC,List.length_cons,List.length_nil] at hj;have a6:j=0\/j=1\/j=2\/j=3:=by omega
  rcases a2 with rfl|rfl<;>cases hx<;>rcases a6 with rfl|rfl|rfl|rfl<;>exact hv
 ·simp only[Aaa,bsV,jE,jH,or_false] at hx;rcases hx with rfl|rfl<;>exact⟨Ao.nil ..,by decide⟩
 ·rw[hF.cell];simpa[stC,stH,stK,Ai,hfV,exZ,Ex.h,Ex.ks] using hv
 ·simp only[Aaa,jE,jH,or_false] at hx;subst hx;refine .mk _ _ (Ao.nil ..) (fun a h=>by simp[hfV] at h) (Ao.nil ..) (.mk _ _ (Ao.nil ..) (Ao.nil ..) (fun e h=>by simp at h)) (by simp[hfV,Al,Ap]) (by show nmI.size<=300;decide) (by decide) (Pq (by decide) ps hS.lt fun j v hv=>?_) (fun x hx=>?_)
  ·rw[hS.cell];simpa[stC,stH,stK,Ai,hsV,exI,Ex.h,Ex.ks] using hv
  ·rw[jA.1 hx];exact hs
structure VdS (w:World)(base g n rb:Nat)(wx:World):Prop where
 ext:Ext [g] w wx
 stm:Stm wx base g n
 res:Blk wx rb 29 pgZ
 rb0:w.heap.size<=rb
 g0:g<w.heap.size
 bg:base<=g
section
variable {w wx wy:World} {base g n m rb:Nat} {p:Pg}
theorem VdS.draw (s:VdS w base g n rb wx)(hE:Ext [g] wx wy)(hS:Stm wy base g m):VdS w base g m rb wy:=by
 have h0:=s.g0;have h1:=s.rb0;exact⟨s.ext.trans hE,hS,s.res.ext hE (by rw[jA];omega),s.rb0,s.g0,s.bg⟩
theorem VdS.grow (s:VdS w base g n rb wx)(hE:Ext [] wx wy):VdS w base g n rb wy:=s.draw hE.nil (s.stm.ext hE (by simp) (by simp))
end
theorem BD3:BD 3=80000000000000:=by decide
set_option maxRecDepth 100000 in
theorem Ae9 (base g n:Nat)(w:World)(hS:Stm w base g (n+7*80000000003000)):Calls prog 50 #[.pointer (some g)] w (LsP base g n w):=by
 have HS:=hd hS;have hg:=hS.lt;have am:=hS.base;clear hS;go_enter func50,ntmps50
 go_upto_region 1 with fail
 have an:Hd (VdS w base g (n+7*80000000003000) w.heap.size (w.alloc (.cells #[.slice none 0 0,.slice none 0 0] 29))):=
  hd ⟨(jF _ _).alloc _,HS.o.alloc _,jK w _ _,jD _,hg,am⟩
 generalize World.alloc w _=w1 at *;generalize aG:w.heap.size=rb at *;go_wp2_with fail
 go_loopw [4] (fun i wr=>∃k:Nat,i=.int .i64 k/\k<=6/\Hd (VdS w base g (n+(7-k)*80000000003000) rb wr)) (fun i _=>(6-intOf i).toNat)
 case atStart=>exact⟨0,rfl,by omega,an⟩
 case round=>
  obtain⟨k,rfl,hk,HV⟩:=hrel;by_cases aI:k<6
  ·have ao:(k:Int)<6:=by omega
   go_wp2_with fail
   refine(Ot base g (n+(7-(k+1))*80000000003000) wr (HV.o.stm.less (by rw[BD3];omega))).mono ?_
   rintro e w2 ⟨p,rfl,hp,hE,hS⟩;have ac:=hd (HV.o.draw hE hS);have a8:=PgA.mono hp (Q:=fun b=>rb<b) (fun b hb h=>by have:=HV.o.res.lt;omega) (jD _);have ad:=hd a8;have HC:=hd (fun W (hW:Ext [] w2 W)=>Md p W ((PgA.inn a8 (by omega)).keep hW));clear hp hE hS a8 HV;unfold pgV My at HC;unfold pgV;generalize aH:Cd p.bs p.body=ce at *;go_upto_region 4 with fail
   have ae:=(jF [] w2).alloc (.cells #[.slice p.A p.bs.length p.cap,.slice p.B p.body.length p.bcap] 29);have aa:=hd ae;have a2:=hd (jK w2 29 #[.slice p.A p.bs.length p.cap,.slice p.B p.body.length p.bcap]);generalize World.alloc w2 _=w3 at *;clear ae;have qp:=a2.o.cell;have af:=a2.o.lt;go_wp2_with fail
   refine(HC.o w3 aa.o).mono ?_
   rintro e w5 ⟨rfl,hE⟩;have ag:=hd (aa.o.trans hE);have ah:=hd (a2.o.ext hE (by simp));have a1:=hd (ac.o.grow ag.o);have ap:=hd (ad.o.ext ag.o (by simp));clear hE qp af a2 aa HC ac ad;by_cases al:ce=0
   ·subst al;have qp:=ah.o.cell;have af:=ah.o.lt;have qr:=a1.o.res.cell;have ai:=a1.o.res.frozen;have aq:=a1.o.res.lt;unfold pgZ at qr;have ab:=hd ((jL (b:=rb) (i:=0) (u:=.slice p.A p.bs.length p.cap) (.inl (by simp)) (jF [rb] w5)).trans (jL (b:=rb) (i:=1) (u:=.slice p.B p.body.length p.bcap) (.inl (by simp)) (jF [rb] _)));have au:=hd ((a1.o.res.set_' 0 (.slice p.A p.bs.length p.cap) #[.slice p.A p.bs.length p.cap,.slice none 0 0] rfl).set_' 1 (.slice p.B p.body.length p.bcap) #[.slice p.A p.bs.length p.cap,.slice p.B p.body.length p.bcap] rfl);go_wp2_with fail
    refine bodyPost_ret (results_cell_row rfl _ _ rb 29 _ (0,0) _ rfl au.o underlying29 rfl (by kernel_rfl)) rfl ?_
    have h0:=a1.o.g0;have h1:=a1.o.rb0;exact⟨p,rfl,(ap.o.ext ab.o fun x hx hh=>by rw[jA.1 hx] at hh;omega).mono (fun b _ hb=>by omega) (by omega),a1.o.ext.step ab.o fun x hx=>.inr (by rw[jA.1 hx];omega),(a1.o.stm.ext ab.o (by rw[jA];omega) (fun x hx=>by rw[jA.1 hx];omega)).less (by omega)⟩
   ·have hq:(ce==0)=false:=by simpa using al
    go_wp2_with fail
    go_roundw
    case rel=>exact⟨k+1,by go_num,by omega,a1⟩
    case measure=>simp[intOf];omega
  ·have aw:k=6:=by omega
   subst aw;generalize hH:wr.heap.size=H at *;have hbf:=Ae8;have qr:=HV.o.res.cell;have ai:=HV.o.res.frozen;have aq:=HV.o.res.lt;unfold pgZ at qr;have z1:(wr.alloc (.cells #[.string ⟨#[97]⟩,(4:Int),.bool true,.slice none 0 0,.string ⟨#[98]⟩,(4:Int),.bool false,.slice none 0 0] 45)).heap.size=H+1:=by rw[Ag,hH]
   have z2:((wr.alloc (.cells #[.string ⟨#[97]⟩,(4:Int),.bool true,.slice none 0 0,.string ⟨#[98]⟩,(4:Int),.bool false,.slice none 0 0] 45)).alloc (.cells #[.string ⟨#[105]⟩,(1:Int)] 178)).heap.size=H+2:=by rw[Ag,z1]
   have z3:(((wr.alloc (.cells #[.string ⟨#[97]⟩,(4:Int),.bool true,.slice none 0 0,.string ⟨#[98]⟩,(4:Int),.bool false,.slice none 0 0] 45)).alloc (.cells #[.string ⟨#[105]⟩,(1:Int)] 178)).alloc (.cells #[.string ⟨#[105]⟩,(1:Int)] 178)).heap.size=H+3:=by rw[Ag,z2]
   have z4:((((wr.alloc (.cells #[.string ⟨#[97]⟩,(4:Int),.bool true,.slice none 0 0,.string ⟨#[98]⟩,(4:Int),.bool false,.slice none 0 0] 45)).alloc (.cells #[.string ⟨#[105]⟩,(1:Int)] 178)).alloc (.cells #[.string ⟨#[105]⟩,(1:Int)] 178)).alloc (.cells (Ai (hsV (H+1) (H+2)) 0 (exI (H+2)) 0) 43)).heap.size=H+4:=by rw[Ag,z3]
   have b3:=Mf (((wr.alloc (.cells #[.string ⟨#[97]⟩,(4:Int),.bool true,.slice none 0 0,.string ⟨#[98]⟩,(4:Int),.bool false,.slice none 0 0] 45)).alloc (.cells #[.string ⟨#[105]⟩,(1:Int)] 178)).alloc (.cells #[.string ⟨#[105]⟩,(1:Int)] 178)) (hsV (H+1) (H+2)) 0 (exI (H+2)) 0;have b4:=Mf ((((wr.alloc (.cells #[.string ⟨#[97]⟩,(4:Int),.bool true,.slice none 0 0,.string ⟨#[98]⟩,(4:Int),.bool false,.slice none 0 0] 45)).alloc (.cells #[.string ⟨#[105]⟩,(1:Int)] 178)).alloc (.cells #[.string ⟨#[105]⟩,(1:Int)] 178)).alloc (.cells (Ai (hsV (H+1) (H+2)) 0 (exI (H+2)) 0) 43)) (hfV (H+3)) 1 exZ 0;rw[z3] at b3;rw[z4] at b4;have a2:=hd b3;have ax:=hd b4;have HA:=hd (((((Blk.new' wr 45 #[.string ⟨#[97]⟩,(4:Int),.bool true,.slice none 0 0,.string ⟨#[98]⟩,(4:Int),.bool false,.slice none 0 0] H hH.symm).alloc (.cells #[.string ⟨#[105]⟩,(1:Int)] 178)).alloc (.cells #[.string ⟨#[105]⟩,(1:Int)] 178)).alloc (.cells (Ai (hsV (H+1) (H+2)) 0 (exI (H+2)) 0) 43)).alloc (.cells (Ai (hfV (H+3)) 1 exZ 0) 43));have HT:=hd ((((Blk.new' _ 178 #[.string ⟨#[105]⟩,(1:Int)] (H+1) z1.symm).alloc (.cells #[.string ⟨#[105]⟩,(1:Int)] 178)).alloc (.cells (Ai (hsV (H+1) (H+2)) 0 (exI (H+2)) 0) 43)).alloc (.cells (Ai (hfV (H+3)) 1 exZ 0) 43));have HU:=hd (((Blk.new' _ 178 #[.string ⟨#[105]⟩,(1:Int)] (H+2) z2.symm).alloc (.cells (Ai (hsV (H+1) (H+2)) 0 (exI (H+2)) 0) 43)).alloc (.cells (Ai (hfV (H+3)) 1 exZ 0) 43));have HS:=hd ((Blk.new' _ 43 (Ai (hsV (H+1) (H+2)) 0 (exI (H+2)) 0) (H+3) z3.symm).alloc (.cells (Ai (hfV (H+3)) 1 exZ 0) 43));have HF:=hd ((Blk.new' _ 43 (Ai (hfV (H+3)) 1 exZ 0) (H+4) z4.symm));have a7:=hd (((((((jF [] wr).alloc (.cells #[.string ⟨#[97]⟩,(4:Int),.bool true,.slice none 0 0,.string ⟨#[98]⟩,(4:Int),.bool false,.slice none 0 0] 45)).alloc (.cells #[.string ⟨#[105]⟩,(1:Int)] 178)).alloc (.cells #[.string ⟨#[105]⟩,(1:Int)] 178)).alloc (.cells (Ai (hsV (H+1) (H+2)) 0 (exI (H+2)) 0) 43)).alloc (.cells (Ai (hfV (H+3)) 1 exZ 0) 43)));clear b3 b4;have aj:=hd (HV.o.res.ext a7.o (by simp));have ak:=hd (HV.o.stm.ext a7.o (by simp) (by simp));clear z1 z2 z3 z4;go_wp2_with (refine Qe 29 _ _ rfl ?_)
   refine hd ?_
   refine Bc rfl 29 _ _ rfl rb #[.slice (some H) 2 2,.slice (some ⟨H+4,0,none⟩) 1 1] pgZ 29 rfl rfl aj.o (by kernel_rfl) rfl (by simp;repeat(first|exact rfl|refine⟨rfl,?_⟩)) ?_
   intro w9 hB9 hE9;have a6:∀b,H<=b->b∉[rb]:=fun b hb hm=>by rw[jA] at hm;omega
   have ay:=hd hB9;have az:=hd (HA.o.ext hE9 (a6 _ (by omega)));have aA:=hd (HT.o.ext hE9 (a6 _ (by omega)));have aB:=hd (HU.o.ext hE9 (a6 _ (by omega)));have aC:=hd (HS.o.ext hE9 (a6 _ (by omega)));have aD:=hd (HF.o.ext hE9 (a6 _ (by omega)));have aE:=hd ((HV.o.ext.trans a7.o.nil).step hE9 fun x hx=>.inr (by rw[jA.1 hx];exact HV.o.rb0));have aF:=hd (ak.o.ext hE9 (by have:=HV.o.g0;have:=HV.o.rb0;rw[jA];omega) (fun x hx=>by have:=HV.o.g0;have:=HV.o.rb0;rw[jA.1 hx];omega));have hw:w.heap.size<=H:=by have:=HV.o.rb0;omega
   clear hB9 hE9 HA HT HU HS HF a7 aj ak a2 ax hbf qr ai;go_wp2_with fail
   exact bodyPost_ret (results_cell_row rfl _ _ rb 29 _ (0,0) _ rfl ay.o underlying29 rfl (by kernel_rfl)) rfl ⟨Aaa (H+1) (H+2) (H+3) H (H+4),rfl,Akz aA.o aB.o aC.o az.o aD.o (by omega) (by omega) (by omega) (by omega) (by omega),aE.o,aF.o.less (by omega)⟩
set_option maxRecDepth 100000 in
theorem Acc (base g n:Nat)(w:World)(hS:Stm w base g (n+1000000000000000)):Calls prog 22 #[.pointer (some g)] w (LsP base g n w):=by
 have HS:=hd hS;have hg:=hS.lt;have ab:=hS.base;clear hS;go_enter func22,ntmps22
 go_upto_region 1 with fail
 have a7:Hd (VdS w base g (n+1000000000000000) w.heap.size (w.alloc (.cells #[.slice none 0 0,.slice none 0 0] 29))):=
  hd ⟨(jF _ _).alloc _,HS.o.alloc _,jK w _ _,jD _,hg,ab⟩
 generalize World.alloc w _=w1 at *;generalize af:w.heap.size=rb at *;go_wp2_with fail
 refine(Gf base g (n+999999999999999) 12 w1 (a7.o.stm.less (by omega)) (by omega)).mono ?_
 rintro e w2 ⟨fl,rfl,hE,hS⟩;have a6:=hd (a7.o.draw hE hS);clear hE hS a7;cases fl with
 | true=>
  go_wp2_with fail
  refine(Ae7 base g n w2 (a6.o.stm.less (by rw[BD3];omega))).mono ?_
  rintro e w3 ⟨p,rfl,hp,hE,hS⟩;have a1:=hd (a6.o.draw hE hS);have a8:=hd hp;have ac:=a6.o.res.lt;clear hE hS hp;unfold pgV;have qr:=a1.o.res.cell;have ad:=a1.o.res.frozen;have ae:=a1.o.res.lt;unfold pgZ at qr;have a2:=hd ((jL (b:=rb) (i:=0) (u:=.slice p.A p.bs.length p.cap) (.inl (by simp)) (jF [rb] w3)).trans (jL (b:=rb) (i:=1) (u:=.slice p.B p.body.length p.bcap) (.inl (by simp)) (jF [rb] _)));have aa:=hd ((a1.o.res.set_' 0 (.slice p.A p.bs.length p.cap) #[.slice p.A p.bs.length p.cap,.slice none 0 0] rfl).set_' 1 (.slice p.B p.body.length p.bcap) #[.slice p.A p.bs.length p.cap,.slice p.B p.body.length p.bcap] rfl);go_wp2_with fail
  refine bodyPost_ret (results_cell_row rfl _ _ rb 29 _ (0,0) _ rfl aa.o underlying29 rfl (by kernel_rfl)) rfl ?_
  have h0:=a1.o.g0;have h1:=a1.o.rb0;exact⟨p,rfl,(a8.o.ext a2.o fun x hx hh=>by rw[jA.1 hx] at hh;omega).mono (fun b _ hb=>by omega) (by omega),a1.o.ext.step a2.o fun x hx=>.inr (by rw[jA.1 hx];omega),(a1.o.stm.ext a2.o (by rw[jA];omega) (fun x hx=>by rw[jA.1 hx];omega)).less (by omega)⟩
 | false=>
  go_wp2_with fail
  refine(Ae9 base g n w2 (a6.o.stm.less (by omega))).mono ?_
  rintro e w3 ⟨p,rfl,hp,hE,hS⟩;have a1:=hd (a6.o.draw hE hS);have a8:=hd hp;have ac:=a6.o.res.lt;clear hE hS hp;unfold pgV;have qr:=a1.o.res.cell;have ad:=a1.o.res.frozen;have ae:=a1.o.res.lt;unfold pgZ at qr;have a2:=hd ((jL (b:=rb) (i:=0) (u:=.slice p.A p.bs.length p.cap) (.inl (by simp)) (jF [rb] w3)).trans (jL (b:=rb) (i:=1) (u:=.slice p.B p.body.length p.bcap) (.inl (by simp)) (jF [rb] _)));have aa:=hd ((a1.o.res.set_' 0 (.slice p.A p.bs.length p.cap) #[.slice p.A p.bs.length p.cap,.slice none 0 0] rfl).set_' 1 (.slice p.B p.body.length p.bcap) #[.slice p.A p.bs.length p.cap,.slice p.B p.body.length p.bcap] rfl);go_wp2_with fail
  refine bodyPost_ret (results_cell_row rfl _ _ rb 29 _ (0,0) _ rfl aa.o underlying29 rfl (by kernel_rfl)) rfl ?_
  have h0:=a1.o.g0;have h1:=a1.o.rb0;exact⟨p,rfl,(a8.o.ext a2.o fun x hx hh=>by rw[jA.1 hx] at hh;omega).mono (fun b _ hb=>by omega) (by omega),a1.o.ext.step a2.o fun x hx=>.inr (by rw[jA.1 hx];omega),(a1.o.stm.ext a2.o (by rw[jA];omega) (fun x hx=>by rw[jA.1 hx];omega)).less (by omega)⟩
end
end Go.Proofs.YtfppibmloloakaaGreatDoor
