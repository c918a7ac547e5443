import Derived.Test.YtfppibmloloakaaGreatDoorK44
namespace Go.Proofs.YtfppibmloloakaaGreatDoor
open Go.RowKit Go.Proofs.Tryz
set_option linter.all false
set_option maxHeartbeats 64000000
def Pp (k:Int):St:=.mk ⟨k,⟨#[]⟩,0,0,0,false,none,0,[],none,0,0,afZ,.mk exZ []⟩ []
theorem Ab8 (k:Int):prog.built 43 [(0,.int .i64 k)]=some (stA (Pp k)):=by kernel_rfl
theorem Aky (k:Int)(P:Nat->Prop){M:Nat}(hM:1<=M)(w:World):StA P M w (Pp k):=
 .mk _ _ (Ao.nil ..) (fun a h=>by cases h) (Ao.nil ..) (.mk _ _ (Ao.nil ..) (Ao.nil ..) (fun e h=>by cases h)) (by show Al (.mk exZ [])<=M;simp[Al,Ap];exact hM) (by show(⟨#[]⟩:ByteArray).size<=M;exact nt (by decide) hM) hM (Ao.nil ..) (fun s h=>by cases h)
def Ab9 (k:Int):Af:=⟨k,none,0,[]⟩
theorem Aca (k:Int):prog.built 38 [(0,.int .i64 k)]=some #[.int .i64 k,.slice none 0 0]:=by kernel_rfl
theorem Ah9 (w:World)(k:Int):(Instr.buildSlice 35 1 #[(0,.agg #[k,.slice none 0 0])]).run prog w=.ok (.slice (some w.heap.size) 1 1) (w.alloc (.cells #[k,.slice none 0 0] 38)):=by
 obtain⟨i0,a2,a6,a1,a7⟩:=Xj;refine run_buildSlice w _ _ 1 _ _ i0 _ underlying35 a2 a6 (by rw[a1];decide) (by rw[a1];decide) ?_
 rw[a1];have hz:((Array.range (1*2)).map (fun x=>(Value.agg #[(0:Int),.slice none 0 0]).cells[x % (Value.agg #[(0:Int),.slice none 0 0]).cells.size]!))=#[.int .i64 0,.slice none 0 0]:=by kernel_rfl
 rw[hz];simp[Instr.fill,Value.cells]
def Ajw:Array Value:=#[.string ⟨#[]⟩,.string ⟨#[105]⟩,.string ⟨#[73]⟩,.string ⟨#[97,98,99,100,101,102,103,104,105]⟩,.string ⟨#[106]⟩]
theorem Aia (r:Nat)(hr:r<5):∃s:ByteArray,s.size<=10/\Ajw[r]? = some (.string s):=by
 have h:r=0\/r=1\/r=2\/r=3\/r=4:=by omega
 rcases h with rfl|rfl|rfl|rfl|rfl<;>exact⟨_,by decide,rfl⟩
theorem Ajx (h:SH)(b:List St):stC (.mk h b)=[.int .i64 h.k,.string h.var,.int .i64 h.lo,.int .i64 h.hi,.int .i64 h.step,.bool h.vec,.slice h.cA h.conds.length h.cc,.slice h.A b.length h.cap,.int .i64 h.buf,.int .i64 h.at_.base,.slice h.at_.A h.at_.ts.length h.at_.cap] ++ (An h.val).toList:=rfl
set_option maxRecDepth 100000 in
theorem Zz (ss:List St)(ih:∀s∈ss,Ah7 s.body):Ah7 ss:=by
 intro P Q R N base g n w A c hPQ hQ hPB hPg hR hN hA hK hS;have HS:=hd hS;have hg:=hS.lt;have bf:=hS.base;have HI:=hd ih;have az:=hd hPQ;have HQ:=hd hQ;have ad:=hd hPg;have ao:=hd hPB;have bR:ss.length<=R:=hA.1;have HC:=hd (Ah2 P R A ss.length c ss w hA rfl (by omega));have HK:=hd hK;clear hS ih hPQ hQ hPg hPB hA hK;generalize hl:ss.length=L at *;have HL:=hd hl;clear hl;go_enter func106,ntmps106
 go_wp2_with fail
 refine HC.o.mono ?_
 rintro e w1 ⟨v,rfl,ho,hE⟩;obtain⟨cA,cc,rfl,-,b3⟩:=Bg ho;have aA:=hd hE;have au:=hd ho;have aw:=hd (HS.o.ext hE (by simp) (by simp));have aB:=hd (fun s hs=>StA.ext hE (by simp) (HK.o s hs));have bS:=hd hE.size;clear hE ho HC HS HK;by_cases hL:L=0
 ·
  subst hL;have bh:ss=[]:=List.length_eq_zero_iff.1 HL.o;subst bh;go_wp2_with fail
  refine(Ce base g (n+900) 0 4 w1 (aw.o.less (by omega)) (by omega) (by omega)).mono ?_
  rintro e w2 ⟨y,rfl,-,hE,hS⟩;have bT:g<w1.heap.size:=aw.o.lt;have aT:=hd (aA.o.nil.trans hE);have bi:=hd (Ah au.o hE fun q hq=>by have:=Ad au.o q hq;rw[jA];omega);have aU:=hd hS;have ax:=hd ((jF [] w2).alloc (.cells (stA (Pp y)) 43));have aV:=hd (Ah bi.o ax.o (by simp));have bj:=hd (jK w2 43 (stA (Pp y)));have bU:=hd (aU.o.ext ax.o (by simp) (by simp));have bk:Hd (w.heap.size<=(w2.alloc (.cells (stA (Pp y)) 43)).heap.size):=hd (nt aT.o.size ax.o.size);clear hE hS;obtain⟨i0,aN,aO,aP,aQ⟩:=Jb
  go_wp2_with (first
   | refine Br rfl (.agg (stA (Pp y))) w2 (Hf 43 _ rfl _ (Ab8 y)) ?_
   | (
     refine Br rfl (.slice (some w2.heap.size) 1 1) (w2.alloc (.cells (stA (Pp y)) 43)) ?rr ?_
     case rr=>
      refine As rfl _ w2 _ _ (.agg (stA (Pp y))) ?_ ?_
      ·rfl
      ·exact Nw w2 (Pp y))
   | (
     refine wpList_append_lies _ rfl _ _ 27 rfl w.heap.size 43 i0 _ 21 256 underlying27 aN aO aP aQ rfl (by decide) (.slice cA 0 cc) 0 [] rfl aV.o ⟨w2.heap.size,0,none⟩ 1 1 (stC (Pp y)) rfl (Cr _) ?c1 (La _) (by omega) ?c3 ?c4 bk.o _ rfl ?_
     case c1=>intro j v hj;rw[Addr.add_mk,Nat.zero_add,bj.o.cell,<-Array.getElem?_toList,<-Hh];exact hj
     case c3=>unfold maxLen;omega
     case c4=>omega
     intro g8 c8 w8 ag ah hi8 ha8;have bl:=hd (And.intro ag ah);clear ag ah hi8 ha8))
  go_ret
  obtain⟨ag,ah⟩:=bl.o;rw[List.nil_append] at ag;have hX:Ext (Value.slice cA 0 cc).ownBlock.toList w2 w8:=(ax.o.nil).step ((jF _ _).grown ah fun q hq=>.inl (jC.2 hq)) fun x hx=>.inl hx
  have ae:∀q∈(Value.slice cA 0 cc).ownBlock.toList,w.heap.size<=q:=fun q hq=>Ad aV.o q (jC.1 hq)
  have bm:w8.ownsRow w.heap.size 43 21 (.slice (some g8) 1 c8) [Pp y].length ([Pp y].flatMap stC):=by simpa using ag
  refine⟨_,_,[Pp y],rfl,(Ao.own (P:=Q) (N:=2*R+40) Cr bm (by simp) (by decide) (fun q _ h1 _=>HQ.o q h1)).2,fun s hs=>?_,aT.o.step hX fun q hq=>.inr (ae q hq),aU.o.ext hX (fun hm=>by have:=ae _ hm;omega) (fun q hq=>by have:=ae q hq;omega) |>.less (by omega)⟩
  rw[jA.1 hs];exact Aky y Q (by omega) w8
 ·obtain⟨q,rfl,aR,ca⟩:=b3 (by omega);have hz:((L:Int)==0)=false:=by simpa using hL
  have bV:q≠g:=by omega
  have aC:Hd (SpS w Q (2*N+40) base g (n+1000*N+1000) q cc ss w1):=hd ⟨aA.o.nil,aw.o,by rw[HL.o];exact au.o,fun s hs=>StA.mono (fun b _ hb=>⟨az.o b hb,fun e=>by have:=ao.o b hb;omega,fun e=>ad.o (e ▸ hb)⟩) (by omega) (aB.o s hs),aR,hg,bf⟩;clear aA au aw b3;go_wp2_with fail
  refine(Cb base g (n+1000*N+999) L w1 (aC.o.stm.less (by omega)) (by omega)).mono ?_
  rintro e w2 ⟨i,rfl,hi,hE,hS⟩;obtain⟨j,rfl⟩:∃j:Nat,i=j:=⟨i.toNat,by omega⟩;have hj:j<L:=by omega
  have bW:(j:Int)<L:=by omega
  obtain⟨y,hy⟩:∃y,ss[j]? = some y:=⟨_,jJ (by rw[HL.o];exact hj)⟩;obtain⟨h,b⟩:=y;have ai:=hd (aC.o.draw hE hS);have aD:=hd (StA.ext hE (fun x hx hp=>ad.o (jA.1 hx ▸ hp)) (aB.o _ (ilm hy)));have bn:=hd (HI.o _ (ilm hy));have a2:=hd hy;clear hE hS hi aC aB HI hy;have c7:=ai.o.cell a2.o 7 _ rfl;have qf:=ai.o.frozen;have ql:=ai.o.lt.1;go_upto_region 6 with fail
  go_cut [34] (fun s wx=>∃fl:Bool,s=.bool fl/\(fl=true->0<b.length)/\Hd (StA P N wx (.mk h b))/\Hd (SpS w Q (2*N+40) base g (n+1000*N+998) q cc ss wx))
  case first=>
   by_cases cf:b.length=0
   ·have h0:decide ((0:Int)<(b.length:Int))=false:=decide_eq_false (by omega);go_wp2_with fail
    go_meet
    exact⟨false,rfl,by simp,aD,hd (ai.o.less (by omega))⟩
   ·have h0:decide ((0:Int)<(b.length:Int))=true:=decide_eq_true (by omega);go_wp2_with fail
    refine(Gf base g (n+1000*N+998) 2 w2 (ai.o.stm.less (by omega)) (by omega)).mono ?_
    rintro e w3 ⟨fl,rfl,hE,hS⟩;have ab:=hd (ai.o.draw hE hS);have am:=hd (StA.ext hE (fun x hx hp=>ad.o (jA.1 hx ▸ hp)) aD.o);clear hE hS;go_wp2_with fail
    go_meet
    exact⟨fl,rfl,fun _=>by omega,am,ab⟩
  case rest=>
   obtain⟨fl,rfl,bN,am,ab⟩:=hcut;clear ai aD c7 qf ql;have bX:=am.o.pos;cases fl with
   | true=>
    have c7:=ab.o.cell a2.o 7 _ rfl;have qf:=ab.o.frozen;have ql:=ab.o.lt.1;have ay:=ab.o.lt.2;have bo:=ab.o.ext.size;have bp:=hd bo;have aE:=am.o.all;have HR:=hd (bn.o P (fun b=>P b\/wc.heap.size<=b) N (N-1) base g n wc h.A h.cap (fun b hb=>.inl hb) (fun b hb=>.inr hb) (fun b hb=>by have:=ao.o b hb;omega) ad.o hN (by omega) aE.2.2.2.2.2.2.1 aE.2.2.2.2.2.2.2 (ab.o.stm.less (by omega)));clear aE;dsimp only[St.body] at HR;go_wp2_with fail
    refine HR.o.mono ?_
    rintro e w5 ⟨A5,c5,b5,rfl,ba,bb,hE,hS⟩;have a7:=hd (ab.o.draw hE hS);have c7:=a7.o.cell a2.o 7 _ rfl;have qf:=a7.o.frozen;have ql:=a7.o.lt.1;have hm:=a7.o.kid _ (ilm a2.o);obtain⟨k1,k2,k3,k4,k5,k6,k7,k8⟩:=hm.all
    have ap:∀z,P z\/wc.heap.size<=z->Q z/\z≠q/\z≠g:=fun z hz=>by
     rcases hz with hz|hz
     ·exact⟨az.o z hz,fun e=>by have:=ao.o z hz;omega,fun e=>ad.o (e ▸ hz)⟩
     ·exact⟨HQ.o z (by have:=bp.o;omega),by omega,by omega⟩
    have a1:=hd (a7.o.put a2.o (.mk {h with A:=A5,cap:=c5 } b5) (k:=7) (v:=.slice A5 b5.length c5) (by decide) rfl (.mk _ _ k1 k2 k3 k4 k5 k6 hm.pos (Ao.mono ba (fun z _ hz=>ap z hz) (by omega)) (fun s hs=>StA.mono (fun z _ hz=>ap z hz) (by omega) (bb s hs))));clear hE hS ba bb k1 k2 k3 k4 k5 k6 k7 k8 hm;go_wp2_with fail
    go_ret
    have hf:=a1.o.fin (R:=2*R+40) (by rw[List.length_set,HL.o];omega) (HQ.o q aR);exact⟨_,_,_,by rw[List.length_set,HL.o];rfl,hf.1,hf.2,a1.o.ext,a1.o.stm⟩
   | false=>
    clear bN;go_upto_block 0 with fail
    refine(Cb base g (n+1000*N+990) 9 wc (ab.o.stm.less (by omega)) (by omega)).mono ?_
    rintro e w4 ⟨r,rfl,hr,hE,hS⟩;have a6:=hd (ab.o.draw hE hS);have af:=hd (StA.ext hE (fun x hx hp=>ad.o (jA.1 hx ▸ hp)) am.o);have bq:r=0\/r=1\/r=2\/r=3\/r=4\/r=5\/r=6\/r=7\/r=8:=by omega
    have an:h.var.size<=2*N+40:=by have:=af.o.all.2.2.2.2.2.1;omega
    clear hE hS hr ab am;go_upto_block 0 with fail
    go_cut [] (fun wx=>∃aS:List St,aS.length=L/\Hd (SpS w Q (2*N+40) base g n q cc aS wx))
    case first=>
     have qf:=a6.o.frozen;have ql:=a6.o.lt.1;have ay:g<w4.heap.size:=a6.o.lt.2;have br:=a6.o.ext.size;have bY:=hd br;rcases bq with rfl|rfl|rfl|rfl|rfl|rfl|rfl|rfl|rfl
     ·skip
      go_wp2_with fail
      refine(Ce base g (n+900) 0 4 w4 (a6.o.stm.less (by omega)) (by omega) (by omega)).mono ?_
      rintro e w6 ⟨y,rfl,-,hE,hS⟩;have a1:=hd (a6.o.draw hE hS);clear qf ql hE hS;have ck:w6.cell? ⟨q,j*21,none⟩=some (.int .i64 h.k):=a1.o.cell a2.o 0 _ rfl;have qf:=a1.o.frozen;have ql:=a1.o.lt.1;have a8:=hd (a1.o.plain a2.o {h with k:=y } (k:=0) (v:=y) (by decide) rfl ⟨rfl,rfl,rfl,rfl,rfl,rfl⟩ an);go_wp2_with fail
      go_meet
      exact⟨_,by rw[List.length_set,HL.o],hd (a8.o.less (by omega))⟩
     ·skip
      have HN:=hd (jK w4 9 Ajw);have aa:Ext [] w4 (w4.alloc (.cells Ajw 9)):=(jF _ _).alloc _;have a7:=hd (a6.o.draw aa.nil (a6.o.stm.ext aa (by simp) (by simp)));clear aa;unfold Ajw at HN a7;go_wp2_with fail
      refine(Cb base g (n+900) 5 _ (a7.o.stm.less (by omega)) (by omega)).mono ?_
      rintro e w6 ⟨r1,rfl,bP,hE,hS⟩;have a1:=hd (a7.o.draw hE hS);have aF:=hd (HN.o.ext hE (by rw[jA];omega));obtain⟨r,rfl⟩:∃r:Nat,r1=r:=⟨r1.toNat,by omega⟩;have bt:r<5:=by omega
      have bZ:(r:Int)<5:=by omega
      obtain⟨s,hs,b4⟩:=Aia r bt;have c0:w4.heap.size<w6.heap.size:=aF.o.lt;have cs:w6.cell? ⟨w4.heap.size,r,none⟩=some (.string s):=by rw[aF.o.cell];exact b4
      clear qf ql hE hS HN a7 bP b4 aF;have ck:w6.cell? ⟨q,j*21+1,none⟩=some (.string h.var):=a1.o.cell a2.o 1 _ rfl;have qf:=a1.o.frozen;have ql:=a1.o.lt.1;have a8:=hd (a1.o.plain a2.o {h with var:=s } (k:=1) (v:=.string s) (by decide) rfl ⟨rfl,rfl,rfl,rfl,rfl,rfl⟩ (nt hs (by omega)));go_wp2_with fail
      go_meet
      exact⟨_,by rw[List.length_set,HL.o],hd (a8.o.less (by omega))⟩
     ·skip
      have HN:=hd (jK w4 3 (Cj [0,-100001,100001,-100000]));have aa:Ext [] w4 (w4.alloc (.cells (Cj [0,-100001,100001,-100000]) 3)):=(jF _ _).alloc _;have a7:=hd (a6.o.draw aa.nil (a6.o.stm.ext aa (by simp) (by simp)));clear aa;simp only[Cj,List.map_cons,List.map_nil] at HN a7;go_wp2_with fail
      refine(Cc base g (n+900) w4.heap.size 4 3 [0,-100001,100001,-100000] _ (a7.o.stm.less (by omega)) HN.o (by omega) (by decide)).mono ?_
      rintro e w6 ⟨y,rfl,-,hE,hS⟩;have a1:=hd (a7.o.draw hE hS);clear qf ql hE hS HN a7 ay a6 af;have ay:g<w6.heap.size:=a1.o.lt.2;have HN:=hd (jK w6 3 (Cj [0,9,100001,100000]));have aa:Ext [] w6 (w6.alloc (.cells (Cj [0,9,100001,100000]) 3)):=(jF _ _).alloc _;have a8:=hd (a1.o.draw aa.nil (a1.o.stm.ext aa (by simp) (by simp)));clear aa;simp only[Cj,List.map_cons,List.map_nil] at HN a8;go_wp2_with fail
      refine(Cc base g (n+800) w6.heap.size 4 3 [0,9,100001,100000] _ (a8.o.stm.less (by omega)) HN.o (by omega) (by decide)).mono ?_
      rintro e w8 ⟨z,rfl,-,hE,hS⟩;have aj:=hd (a8.o.draw hE hS);clear hE hS HN a8 a1 ay;have ck:w8.cell? ⟨q,j*21+2,none⟩=some (.int .i64 h.lo):=aj.o.cell a2.o 2 _ rfl;have c2:w8.cell? ⟨q,j*21+3,none⟩=some (.int .i64 h.hi):=aj.o.cell a2.o 3 _ rfl;have qf:=aj.o.frozen;have ql:=aj.o.lt.1;have ac:=hd ((aj.o.plain a2.o {h with lo:=y } (k:=2) (v:=y) (by decide) rfl ⟨rfl,rfl,rfl,rfl,rfl,rfl⟩ an).plain (List.getElem?_set_self (by rw[HL.o];exact hj)) {h with lo:=y,hi:=z } (k:=3) (v:=z) (by decide) rfl ⟨rfl,rfl,rfl,rfl,rfl,rfl⟩ an);go_wp2_with fail
      go_meet
      exact⟨_,by rw[List.length_set,List.length_set,HL.o],hd (ac.o.less (by omega))⟩
     ·skip
      have HN:=hd (jK w4 3 (Cj [0,-1,100001,1,3]));have aa:Ext [] w4 (w4.alloc (.cells (Cj [0,-1,100001,1,3]) 3)):=(jF _ _).alloc _;have a7:=hd (a6.o.draw aa.nil (a6.o.stm.ext aa (by simp) (by simp)));clear aa;simp only[Cj,List.map_cons,List.map_nil] at HN a7;go_wp2_with fail
      refine(Cc base g (n+900) w4.heap.size 5 3 [0,-1,100001,1,3] _ (a7.o.stm.less (by omega)) HN.o (by omega) (by decide)).mono ?_
      rintro e w6 ⟨y,rfl,-,hE,hS⟩;have a1:=hd (a7.o.draw hE hS);clear qf ql hE hS HN a7;have ck:w6.cell? ⟨q,j*21+4,none⟩=some (.int .i64 h.step):=a1.o.cell a2.o 4 _ rfl;have qf:=a1.o.frozen;have ql:=a1.o.lt.1;have a8:=hd (a1.o.plain a2.o {h with step:=y } (k:=4) (v:=y) (by decide) rfl ⟨rfl,rfl,rfl,rfl,rfl,rfl⟩ an);go_wp2_with fail
      go_meet
      exact⟨_,by rw[List.length_set,HL.o],hd (a8.o.less (by omega))⟩
     ·skip
      have ck:w4.cell? ⟨q,j*21+5,none⟩=some (.bool h.vec):=a6.o.cell a2.o 5 _ rfl;have a8:=hd (a6.o.plain a2.o {h with vec:=!h.vec } (k:=5) (v:=.bool (!h.vec)) (by decide) rfl ⟨rfl,rfl,rfl,rfl,rfl,rfl⟩ an);go_wp2_with fail
      go_meet
      exact⟨_,by rw[List.length_set,HL.o],hd (a8.o.less (by omega))⟩
     ·skip
      have ck:w4.cell? ⟨q,j*21+6,none⟩=some (.slice h.cA h.conds.length h.cc):=a6.o.cell a2.o 6 _ rfl;have c6:h.conds.length<=N:=af.o.all.1.1;have HC:=hd (Ah3 P N h.cA h.conds.length h.cc h.conds w4 af.o.all.1 rfl (by omega));generalize be:h.conds.length=Lc at *;have bu:=hd be;clear be;go_wp2_with fail
      refine HC.o.mono ?_
      rintro e w5 ⟨v,rfl,ho,hE⟩;obtain⟨dA,dc,rfl,-,-⟩:=Bg ho;have aG:=hd ho;have aH:Hd (Ext [g] w4 w5):=hd hE.nil;have aW:=hd (a6.o.stm.ext hE (by simp) (by simp));clear ho hE HC;have HN:=hd (jK w5 3 (Cj [-1,0,100001]));have ak:=hd ((jF [] w5).alloc (.cells (Cj [-1,0,100001]) 3));have aI:=hd (aW.o.ext ak.o (by simp) (by simp));have aJ:=aH.o.size;simp only[Cj,List.map_cons,List.map_nil] at HN ak aI;go_wp2_with fail
      refine(Cc base g (n+800) w5.heap.size 3 3 [-1,0,100001] _ (aI.o.less (by omega)) HN.o (by omega) (by decide)).mono ?_
      rintro e w7 ⟨y,rfl,-,hE,hS⟩;have aX:=hd ((aH.o.trans ak.o.nil).trans hE);have bv:=hd hS;have bx:=hd (Ah (Ah aG.o ak.o (by simp)) hE fun x hx=>by have:=Ad aG.o x hx;rw[jA];omega);clear hE hS HN ak aI aH aW aG aJ;have aK:=hd ((jF [] w7).alloc (.cells #[y,.slice none 0 0] 38));have aY:=hd (Ah bx.o aK.o (by simp));have bz:=hd (jK w7 38 #[y,.slice none 0 0]);have bA:Hd (w4.heap.size<=(w7.alloc (.cells #[y,.slice none 0 0] 38)).heap.size):=hd (nt aX.o.size aK.o.size);have aZ:Hd (Lc<=1000):=hd (by omega);obtain⟨i0,aN,aO,aP,aQ⟩:=Xj;clear ck qf ql
      go_wp2_with (first
       | refine Br rfl (.agg #[y,.slice none 0 0]) w7 (Hf 38 _ rfl _ (Aca y)) ?_
       | (
         refine Br rfl (.slice (some w7.heap.size) 1 1) (w7.alloc (.cells #[y,.slice none 0 0] 38)) ?rr ?_
         case rr=>
          refine As rfl _ w7 _ _ (.agg #[y,.slice none 0 0]) ?_ ?_
          ·rfl
          ·exact Ah9 w7 y)
       | (
         refine wpList_append_lies _ rfl _ _ 35 rfl w4.heap.size 38 i0 _ 2 32 underlying35 aN aO aP aQ rfl (by decide) (.slice dA Lc dc) Lc (h.conds.flatMap afC) rfl aY.o ⟨w7.heap.size,0,none⟩ 1 1 (afC (Ab9 y)) rfl (Oq _) ?c1 (Xk _) (by omega) ?c3 ?c4 bA.o _ rfl ?_
         case c1=>intro i v hv;rw[Addr.add_mk,Nat.zero_add,bz.o.cell,<-Array.getElem?_toList];exact hv
         case c3=>have:=aZ.o;unfold maxLen;omega
         case c4=>have:=aZ.o;omega
         intro g8 c8 w8 ag ah hi8 ha8;have bB:=hd ag;have c9:=hd ah;have aL:Ext (Value.slice dA Lc dc).ownBlock.toList w7 w8:=(aK.o.nil).step ((jF _ _).grown ah fun q hq=>.inl (jC.2 hq)) fun x hx=>.inl hx
         have ae:∀x∈(Value.slice dA Lc dc).ownBlock.toList,w4.heap.size<=x:=fun x hx=>Ad aY.o x (jC.1 hx)
         have ac:=hd (a6.o.draw (aX.o.step aL fun x hx=>.inr (ae x hx)) (bv.o.ext aL (fun hm=>by have:=ae _ hm;omega) (fun x hx=>by have:=ae x hx;omega)));clear ag ah hi8 ha8 aL ae;have ck:w8.cell? ⟨q,j*21+6,none⟩=some (.slice h.cA h.conds.length h.cc):=ac.o.cell a2.o 6 _ rfl;have qf:=ac.o.frozen;have ql:=ac.o.lt.1))
      have bC:(h.conds ++ [Ab9 y]).flatMap afC=h.conds.flatMap afC ++ afC (Ab9 y):=by rw[List.flatMap_append];simp
      have al:(h.conds ++ [Ab9 y]).length=Lc+1:=by rw[jG,jS,bu.o]
      have b0:w8.ownsRow w4.heap.size 38 2 (.slice (some g8) (Lc+1) c8) (h.conds ++ [Ab9 y]).length ((h.conds ++ [Ab9 y]).flatMap afC):=by rw[bC,al];exact bB.o
      have b1:=(Ao.own (P:=fun b=>Q b/\b≠q/\b≠g) (N:=2*N+40) Oq b0 (by rw[al];omega) (by decide) (fun z _ h1 _=>⟨HQ.o z (by omega),by have:=a6.o.lt.1;omega,by omega⟩)).2;have hm:=ac.o.kid _ (ilm a2.o);obtain⟨k1,k2,k3,k4,k5,k6,k7,k8⟩:=hm.all
      have bD:=hd (ac.o.put a2.o (.mk {h with cA:=some g8,cc:=c8,conds:=h.conds ++ [Ab9 y] } b) (k:=6) (v:=.slice (some g8) (Lc+1) c8) (by decide) (by rw[<-al];rfl) (.mk _ _ b1 (fun a ha=>by
       rcases jN.1 ha with ha|ha
       ·exact k2 a ha
       ·rw[jA.1 ha];exact Ao.nil ..) k3 k4 k5 k6 hm.pos k7 k8))
      clear k1 k2 k3 k4 k5 k6 k7 k8 hm b1 b0;go_wp2_with fail
      go_meet
      exact⟨_,by rw[List.length_set,HL.o],hd (bD.o.less (by omega))⟩
     ·skip
      go_wp2_with fail
      refine(Ce base g (n+900) (-1) 5 w4 (a6.o.stm.less (by omega)) (by omega) (by omega)).mono ?_
      rintro e w6 ⟨y,rfl,-,hE,hS⟩;have a1:=hd (a6.o.draw hE hS);clear qf ql hE hS;have ck:w6.cell? ⟨q,j*21+8,none⟩=some (.int .i64 h.buf):=a1.o.cell a2.o 8 _ rfl;have qf:=a1.o.frozen;have ql:=a1.o.lt.1;have a8:=hd (a1.o.plain a2.o {h with buf:=y } (k:=8) (v:=y) (by decide) rfl ⟨rfl,rfl,rfl,rfl,rfl,rfl⟩ an);go_wp2_with fail
      go_meet
      exact⟨_,by rw[List.length_set,HL.o],hd (a8.o.less (by omega))⟩
     ·skip
      have b2:w4.cell? ⟨q,j*21+9,none⟩=some (.int .i64 h.at_.base):=a6.o.cell a2.o 9 _ rfl;have aq:w4.cell? ⟨q,j*21+10,none⟩=some (.slice h.at_.A h.at_.ts.length h.at_.cap):=a6.o.cell a2.o 10 _ rfl;have HC:=hd (Zx P N base g (n+100) h.at_ w4 (a6.o.stm.less (by omega)) af.o.all.2.2.1 (by omega));unfold afV at HC;go_wp2_with fail
      refine HC.o.mono ?_
      rintro e w6 ⟨a',rfl,bc,hE,hS⟩;have a1:=hd (a6.o.draw hE hS);have bE:Hd (AfA (fun b=>Q b/\b≠q/\b≠g) (2*N+40) w6 a'):=hd (Ao.mono bc (fun b _ hb=>⟨HQ.o b (by omega),by have:=a6.o.lt.1;omega,by omega⟩) (by omega));clear b2 aq qf ql hE hS bc HC;have b2:w6.cell? ⟨q,j*21+9,none⟩=some (.int .i64 h.at_.base):=a1.o.cell a2.o 9 _ rfl;have aq:w6.cell? ⟨q,j*21+10,none⟩=some (.slice h.at_.A h.at_.ts.length h.at_.cap):=a1.o.cell a2.o 10 _ rfl;have qf:=a1.o.frozen;have ql:=a1.o.lt.1;have hm:=a1.o.kid _ (ilm a2.o);obtain⟨k1,k2,k3,k4,k5,k6,k7,k8⟩:=hm.all;have a8:=hd (a1.o.put a2.o (.mk {h with at_:={h.at_ with base:=a'.base } } b) (k:=9) (v:=a'.base) (by decide) rfl (.mk _ _ k1 k2 k3 k4 k5 k6 hm.pos k7 k8));clear k1 k2 k3 k4 k5 k6 k7 k8 hm;have aM:=List.getElem?_set_self (l:=ss) (i:=j) (a:=St.mk {h with at_:={h.at_ with base:=a'.base } } b) (by rw[HL.o];exact hj);have hm:=a8.o.kid _ (ilm aM);obtain⟨k1,k2,k3,k4,k5,k6,k7,k8⟩:=hm.all;have aj:=hd (a8.o.put aM (.mk {h with at_:=a' } b) (k:=10) (v:=.slice a'.A a'.ts.length a'.cap) (by decide) rfl (.mk _ _ k1 k2 (Ao.ext bE.o (jL (S:=[q]) (.inl (by simp)) (jF _ _)) (fun x hx hp=>hp.2.1 (jA.1 hx))) k4 k5 k6 hm.pos k7 k8));clear k1 k2 k3 k4 k5 k6 k7 k8 hm aM;go_wp2_with fail
      go_meet
      exact⟨_,by rw[List.length_set,List.length_set,HL.o],hd (aj.o.less (by omega))⟩
     ·skip
      have bF:Hd (∀(i:Nat) (v:Value),(An h.val).toList[i]? = some v->w4.cell? ⟨q,j*21+11+i,none⟩=some v):=hd fun i v hv=>by
       rw[Nat.add_assoc];exact a6.o.cell a2.o (11+i) v (by rw[Ajx,jM (by simp)];simpa using hv)
      have HC:=hd (Ajv h.val P (fun b=>P b\/w4.heap.size<=b) N base g (n+100) w4 (fun b hb=>.inl hb) (fun b hb=>.inr hb) (fun b hb=>by have:=ao.o b hb;omega) ad.o hN af.o.all.2.2.2.1 (a6.o.stm.less (by have:=af.o.all.2.2.2.2.1;omega)));have bG:Hd (Al h.val<=N):=hd af.o.all.2.2.2.2.1;have bH:Hd ((prog.info? 41).map (·.size)=some (An h.val).size):=hd (Fe h.val.h h.val.ks.length);rw[Cq] at HC;generalize cb:An h.val=xv at *;go_wp2_with (refine Br rfl (.agg xv) w4 (Dx 41 _ rfl q (j*21+11) rfl xv bF.o _ underlying41 rfl bH.o) ?_)
      refine HC.o.mono ?_
      rintro e w6 ⟨e',rfl,bd,bQ,hE,hS⟩;have a1:=hd (a6.o.draw hE hS)
      have ak:Hd (ExA (fun b=>Q b/\b≠q/\b≠g) (2*N+40) w6 e'):=hd (ExA.mono (fun b _ hb=>by
       rcases hb with hb|hb
       ·exact⟨az.o b hb,fun e=>by have:=ao.o b hb;omega,fun e=>ad.o (e ▸ hb)⟩
       ·exact⟨HQ.o b (by omega),by have:=a6.o.lt.1;omega,by omega⟩) (jD _) bd)
      have bI:Hd (Al e'<=2*N+40):=hd (by have:=bG.o;omega);clear hE hS bd bQ HC qf ql;have bJ:Hd ((prog.info? 41).map (·.size)=some (An e').size):=hd (Fe e'.h e'.ks.length);have bK:Hd ((An e').all (·.oneCell')=true):=hd (Fo e'.h e'.ks.length);obtain⟨b6,b7,b8⟩:=a1.o.blk;have bL:=hd b7;have bM:Hd (j*21+11+(An e').size<=b6.size):=hd (by have:(An e').size=10:=rfl;rw[HL.o] at b8;omega);clear b7 b8;rw[Cq];have hm:=a1.o.kid _ (ilm a2.o);obtain⟨k1,k2,k3,k4,k5,k6,k7,k8⟩:=hm.all;have a8:=hd (a1.o.puts a2.o (.mk {h with val:=e' } b) (k:=11) (vs:=(An e').toList) (by show 11+10<=21;decide) rfl (.mk _ _ k1 k2 k3 ak.o bI.o k6 hm.pos k7 k8));clear k1 k2 k3 k4 k5 k6 k7 k8 hm;generalize ce:An e'=xe at *;have qf:=a1.o.frozen;have ql:=a1.o.lt.1;go_wp2_with (refine Le rfl (w6.setCells q (j*21+11) xe.toList) (Er rfl _ w6 q (j*21+11) xe b6 43 rfl rfl bL.o bM.o bJ.o bK.o) ?_)
      go_meet
      exact⟨_,by rw[List.length_set,HL.o],hd (a8.o.less (by omega))⟩
    case rest=>
     obtain⟨aS,bO,ac⟩:=hcut;go_wp2_with fail
     go_ret
     have hf:=ac.o.fin (R:=2*R+40) (by omega) (HQ.o q aR);exact⟨_,_,_,by rw[bO];rfl,hf.1,hf.2,ac.o.ext,ac.o.stm⟩
theorem Ajy (ss:List St):Ah7 ss:=by
 have h:∀s:St,Ah7 s.body:=Dn (P:=fun s=>Ah7 s.body) fun h ks ih=>Zz ks ih
 exact Zz ss fun s _=>h s
end Go.Proofs.YtfppibmloloakaaGreatDoor
