import Derived.Test.YtfppibmloloakaaGreatDoorK07
namespace Go.Proofs.YtfppibmloloakaaGreatDoor
open Go.RowKit Go.Proofs.Tryz
set_option linter.all false
set_option maxHeartbeats 64000000
set_option maxRecDepth 100000 in
theorem Ut (l:List St)(ih:∀s∈l,Acj s.body):Acj l:=by
 intro pb cap lA LA ln lc gl PA pn pc xs names nb no cb B b0 b1 b2 sv av L AL X w0 w hR hS hF bR hB0 hBc hL hM hl hz h8 hP bk hpz hp9 hC hLn hAn hno hX hLT ci hPT;have eZ:l.length<=1000000:=hR.1;have HI:=hd ih;have HR:=hd hR;have HS:=hd hS;have HF:=hd hF;have bX:=hd bR;have HL:=hd hL;have HM:=hd hM;have aj:=hd hl;have HZ:=hd hz;have H8:=hd h8;have HP:=hd hP;have aN:=hd bk;have dN:=hd hpz;have HC:=hd hC;have dO:=hd hLn;have dP:=hd hAn;have HX:=hd hX;have d6:=hd hLT;have cn:=hd ci;have dQ:=hd hPT;have d7:=hd (hC.ts hBc);clear ih hR hS hF bR hL hM hl hz h8 hP bk hpz hC hLn hAn hX hLT ci hPT;generalize hn:l.length=n at *;have HN:=hd hn;clear hn;go_enter func147,ntmps147
 go_wp2_with fail
 go_loopw [9,17] (fun ov i wr=>∃(k:Nat) (v bl a1:Value) (L1:List Nat) (ah:List Value) (gs:List Nat),i=.int .i64 k/\v=ov/\k<=n/\gs.length=k/\Hd (Ext (TS cb sv av) w wr)/\Hd (Ry wr cb B b0 b1 b2 bl a1 L1 ah)/\Hd (L1.length=no+Ab (l.take k)/\ah.length=no+Ab (l.take k))/\Hd (∀(i g:Nat),L[i]? = some g->L1[i]? = some g)/\Hd (∀(i:Nat) (g:Value),AL[i]? = some g->ah[i]? = some g)/\
  Hd (∀x∈TS cb bl a1,x∈TS cb sv av\/w.heap.size<=x)/\Hd (Ed wr w.heap.size 117 v (gs.map ptV))/\Hd (∀b,v.ownBlock=some b->b∉TS cb bl a1)/\
  Hd (∀(i g:Nat) (s:St),gs[i]? = some g->l[i]? = some s->CSt wr wr.heap.size (v.ownBlock.toList ++ (X ++ TS cb bl a1)) L1 ah names (xs ++ [(i:Int)]) gl (no+Ab (l.take i)) g s)) (fun _ i _=>(n-intOf i).toNat)
 case atStart=>exact⟨0,_,sv,av,L,AL,[],rfl,rfl,jQ _,rfl,hd (jF _ _),HC,hd ⟨by simpa[Ab] using dO.o,by simpa[Ab] using dP.o⟩,hd fun i g h=>h,hd fun i g h=>h,hd fun x hx=>.inl hx,hd (Io _ _ _),hd (fun b hb=>by cases hb),hd fun i g s hg=>by simp at hg⟩
 case round=>
  obtain⟨k,v,bl,a1,L1,ah,gs,rfl,rfl,hk,cj,HE,ap,ak,dB,dC,bm,HO,cX,HG⟩:=hrel;rename World=>wq
  by_cases fg:k<n
  ·have bh:Hd (Ext [] w0 wq):=hd (Ea bX.o HE.o fun x hx=>by have:=(d7.o x hx).1;omega);obtain⟨b,x,rfl,hx,dD⟩:=(HR.o.keep bh.o).at (i:=k) (by have:=HN.o;omega);obtain⟨h,bs⟩:=x;have af:=ilm hx;have bY:=hd hx;have ay:=hd (HS.o _ af);have bp:=hd (HF.o _ af);have dR:=hd (HI.o _ af);have aV:=hd (fun j v hv=>dD j v hv:∀(j:Nat) (v:Value),(stH h bs.length)[j]? = some v->wq.cell? ⟨b,k*21+j,none⟩=some v);have d8:∀x∈TS cb sv av,w0.heap.size<=x:=fun x hx=>by have:=(d7.o x hx).1;omega
   have dS:=hd (HL.o.ext HE.o fun x hx b o hA hxb=>(d6.o b o hA).2 (hxb ▸ hx));have d9:=hd (HM.o.ext HE.o d8 cn.o);have dT:=hd (HP.o.ext HE.o fun x hx b o hA hxb=>dQ.o b o hA (hxb ▸ hx));have f0:Ab (l.take k)+Be (.mk h bs)<=Ab l:=Km hx;obtain⟨sA,sc,rfl,bt,dF⟩:=Nq ap.o.st (by have:=ak.o.1;omega);have f1:=hd bt;have f2:=hd dF;clear bt dF;have dU:L1.length<=100000:=by have:=ak.o.1;omega
   have qc:=ap.o.blk.cell;have am:=ap.o.blk.lt;have da:(k:Int)<(n:Int):=by omega
   have dV:=hd (fun p hp=>nl (jB wq _ (aV.o 0 _ rfl)) hp:∀p,wq.heap.size<=p->b<p);clear hx dD af d8
   have bi:Hd (∀x∈v.ownBlock.toList ++ X,x<wq.heap.size):=hd fun x hx=>by
    have h1:=HE.o.size;rcases jN.1 hx with hx|hx
    ·exact(Bt HO.o (jC.1 hx)).2
    ·have:=(HX.o x hx).2;omega
   have bj:=hd (ap.o.ts hBc);go_upto_region 5 with fail
   go_cut [11] (fun s wx=>∃(sb g9 c9:Nat),s=.pointer (some sb)/\Hd (Lw wq wx cb B b0 b1 b2 (.slice sA L1.length sc) a1 (v.ownBlock.toList ++ X) sb (.slice sA L1.length sc) a1 L1 ah (Ck b (k*21) ln 0 (.slice none 0 0) (.slice none 0 0) 0 (.slice (some g9) (xs ++ [(k:Int)]).length c9) 0 Ip (.pointer none) L1.length (0:Nat)) (some g9) (xs ++ [(k:Int)]))/\Hd (Ext [] wq wx))
   case first=>
    obtain⟨i0,aG,aH,aI,aJ⟩:=Ht;go_wp2_with fail
    clear qc am;refine rgW 15 [] (fun p y=>wq.heap.size<=p.block/\p.off=pn/\y=.int .i64 k) [(6,Aar wq.heap.size 3 (xs.map (Value.int .i64))),(8,Aq wq.heap.size [.int .i64 k]),(9,Bo wq.heap.size 3 1 pn (xs.map (Value.int .i64) ++ [.int .i64 k]) (wq.heap.size<=·))] ?_ ?_
    ·refine Am.cons (Aar.stays fun g i x y hx hf=>?_) (Am.cons (Aq.stays fun b j u y hb hu hf=>?_) (Am.cons (Bo.stays fun g i x y _ hx hf=>?_) Am.nil))
     ·have h1:=(ils hx).1;rw[List.length_map,aN.o] at h1;have h2:i=pn:=hf.2.1;omega
     ·have h1:j=0:=by have:=(ils hu).1;simp at this;exact this
      subst h1;cases hu
      exact hf.2.2
     ·have h2:i=pn:=hf.2.1;subst h2;rw[jM (by rw[List.length_map,aN.o];exact jD _),List.length_map,aN.o,Nat.sub_self] at hx;cases hx
      exact hf.2.2
    simp only[TK]
    repeat(refine dE (fun wr nr hJ=>by(have qc:=(ap.o.blk.ext hJ.1 (jH)).cell;have am:=(ap.o.blk.ext hJ.1 (jH)).lt);clear hJ;exact CL) ?_;simp only[PT])
    refine Lu (Aar wq.heap.size 3 (xs.map (Value.int .i64))) rfl rfl ?_ ?_
    ·refine EC fun wr nr hJ hf=>?_
     refine(Aao PA pn pc xs wr (dT.o.keep hJ.1) aN.o dN.o).mono ?_
     rintro e w' ⟨v',rfl,hE,hO⟩;exact⟨v',rfl,Mr hO (Ext.size hJ.1),hE⟩
    intro (v6:Value);simp only[PT]
    repeat(refine dE (fun wr nr hJ=>by(have qc:=(ap.o.blk.ext hJ.1 (jH)).cell;have am:=(ap.o.blk.ext hJ.1 (jH)).lt);clear hJ;exact CL) ?_;simp only[PT])
    refine Eg (Aq wq.heap.size [.int .i64 k]) rfl rfl (fun wr nr hJ hf=>?_) ?_
    ·refine⟨wr.heap.size,.cells #[k] 3,?_,Ext.size hJ.1,Cs _ _ _ ((jK wr 3 #[k]).cell 0)⟩
     (go_simp;try go_bits)
     first|rfl|exact⟨rfl,rfl⟩
    intro (b8:Nat);simp only[PT];refine Lv wq.heap.size b8 22 3 i0 _ 1 8 v6 pn 1 (xs.map (Value.int .i64)) [.int .i64 k] (wq.heap.size<=·) _ _ rfl rfl rfl (by kernel_rfl) aG aH aI aJ rfl (by decide) rfl rfl rfl (fun u hu=>by rw[jA.1 hu];rfl) (fun w' n' hJ hf=>?_) (jD _) (fun g hg hb=>.inr hb) (fun g hg=>hg.elim And.right id) (fun g j u hg hb hu=>?_) ?_ ?_ ?_
    ·have h6:(Aar wq.heap.size 3 (xs.map (Value.int .i64))).V v6 w':=Bd hf 6 (by kernel_rfl);have h8:(Aq wq.heap.size [.int .i64 k]).V b8 w':=Bd hf 8 (by kernel_rfl);refine⟨?_,h8.2⟩
     have h7:w'.ownsRow wq.heap.size 3 1 v6 (xs.map (Value.int .i64)).length (xs.map (Value.int .i64)):=h6;rw[List.length_map,aN.o] at h7;exact h7
    ·have h1:j=0:=by have:=(ils hu).1;simp at this;exact this
     subst h1;cases hu
     exact⟨hb,by simp,rfl⟩
    ·unfold maxLen;omega
    ·omega
    intro u9;simp only[PT]
    repeat(refine dE (fun wr nr hJ=>by(have qc:=(ap.o.blk.ext hJ.1 (jH)).cell;have am:=(ap.o.blk.ext hJ.1 (jH)).lt);clear hJ;exact CL) ?_;simp only[PT])
    refine Aj (fun w9 hJ hF=>?_)
    obtain⟨g9,c9⟩:=u9;have h9:(Bo wq.heap.size 3 1 pn (xs.map (Value.int .i64) ++ [.int .i64 k]) (wq.heap.size<=·)).V (g9,c9) w9:=hF 9;obtain⟨h9,dG⟩:=h9;have co:=hd hJ.1
    have dW:Hd (Ak w9 (some g9) 1 inC (xs ++ [(k:Int)])):=hd (by
     have hx:(xs ++ [(k:Int)]).length<=1000000:=by rw[jG,aN.o];simp;omega
     have h1:=h9;rw[show xs.map (Value.int .i64) ++ [.int .i64 k]=(xs ++ [(k:Int)]).map (Value.int .i64) by simp] at h1;exact Ack h1 hx inC fun x=>rfl)
    have db:Hd (wq.heap.size<=g9/\g9<w9.heap.size):=hd ⟨dG,by
     obtain⟨C,hC⟩:=Cl h9 rfl;exact hC.lt⟩
    clear hF hJ h9 dG;dsimp only[Bo];have bZ:=hd (jK w9 129 (Ck b (k*21) ln 0 (.slice none 0 0) (.slice none 0 0) 0 (.slice (some g9) (pn+1) c9) 0 Ip (.pointer none) L1.length 0));have aW:=hd ((jF [] w9).alloc (.cells (Ck b (k*21) ln 0 (.slice none 0 0) (.slice none 0 0) 0 (.slice (some g9) (pn+1) c9) 0 Ip (.pointer none) L1.length 0) 129));have ae:=hd ((co.o).alloc (.cells (Ck b (k*21) ln 0 (.slice none 0 0) (.slice none 0 0) 0 (.slice (some g9) (pn+1) c9) 0 Ip (.pointer none) L1.length 0) 129));unfold Ck at bZ ae aW;simp only[Ip] at bZ ae aW;go_wp2_with fail
    generalize World.alloc w9 _=w10 at *;go_meet
    have dX:(xs ++ [(k:Int)]).length=pn+1:=by rw[jG,aN.o];rfl
    refine⟨w9.heap.size,g9,c9,rfl,hd ⟨ae.o.nil,ap.o.keep ae.o (by simp),fun x hx=>.inl hx,?_,co.o.size,fun hm=>?_,dW.o.keep aW.o,fun b o hb=>?_⟩,ae⟩
    ·rw[dX];exact bZ.o
    ·have h1:=(bj.o _ hm).2;have h2:=co.o.size;omega
    ·cases hb
     refine⟨by have:=bZ.o.lt;have:=db.o;omega,fun hm=>?_⟩
     have h3:=db.o;rcases jE.1 hm with h1|hm
     ·omega
     ·rcases jN.1 hm with hm|hm
      ·have:=bi.o _ hm;omega
      ·have:=(bj.o _ hm).2;omega
   case rest=>
    obtain⟨sb,g9,c9,rfl,aa,ae⟩:=hcut;rename World=>w10
    have qb:=aa.o.blk.cell;have a8:=aa.o.blk.lt;have gk:w10.cell? ⟨b,k*21,none⟩=some (.int .i64 h.k):=ae.o.held (aV.o 0 _ rfl) (jH);have dY:=jB w10 _ gk;unfold Ck at qb;simp only at dY;go_upto_block 2 with fail
    clear qb gk;have aX:Hd (Gj w0.heap.size w10 gl names):=hd (d9.o.ext ae.o (by simp) (by simp));have aY:=hd (dS.o.keep ae.o);have cp:names.length=ln:=HM.o.1.symm.trans aj.o
    have c6:Hd (∀b o,LA=some ⟨b,o,none⟩->b<w.heap.size):=hd fun b o hA=>by
     rcases Nat.eq_zero_or_pos ln with h0|h0
     ·rw[(HZ.o h0).1] at hA;cases hA
     ·exact Aka HL.o (by rw[aj.o];exact h0) (fun x=>⟨_,rfl⟩) b o hA
    have dc:=hd d9.o.lt;have f3:=HE.o.size;have f4:=bh.o.size
    have bq:Hd (∀(j:Nat) (v:Value),(stH h bs.length)[j]? = some v->w0.cell? ⟨b,k*21+j,none⟩=some v):=hd (by
     obtain⟨b',x',e1,e2,e3⟩:=HR.o.at (i:=k) (by have:=HN.o;omega);cases e1
     rw[bY.o] at e2;cases e2
     exact e3)
    have dZ:b<w0.heap.size:=jB w0 _ (bq.o 0 _ rfl);have cq:=aa.o.sb1
    have an:Hd (∀W,Ext [sb] w10 W->Ak W LA 1 ptC gl/\Gj w0.heap.size W gl names/\Ext [] w0 W):=hd fun W hW=>⟨aY.o.ext hW fun x hx bb o hA hxb=>by
      have h1:=c6.o bb o hA;rw[jA.1 hx] at hxb;omega,aX.o.ext hW (fun x hx=>by rw[jA.1 hx];omega) (fun g hg hm=>by have:=dc.o g hg;rw[jA.1 hm] at this;omega),
     Ea (bh.o.trans ae.o) hW fun x hx=>by rw[jA.1 hx];omega⟩
    have aZ:Hd (∀bb o,LA=some ⟨bb,o,none⟩->bb∉sb :: (v.ownBlock.toList ++ X ++ TS cb (.slice sA L1.length sc) a1)):=hd fun bb o hA hm=>by
     have h1:=c6.o bb o hA;have h2:=d6.o bb o hA;rcases jE.1 hm with h3|hm
     ·omega
     ·rcases jN.1 hm with hm|hm
      ·rcases jN.1 hm with hm|hm
       ·have:=(Bt HO.o (jC.1 hm)).1;omega
       ·exact h2.1 hm
      ·rcases bm.o bb hm with h3|h3
       ·exact h2.2 h3
       ·omega
    go_cut [12] (fun s wx=>Aij wq cb B b0 b1 b2 (.slice sA L1.length sc) a1 L1 ah (v.ownBlock.toList ++ X) sb w0.heap.size h names (xs ++ [(k:Int)]) gl L1.length b (k*21) s wx)
    case first=>
     by_cases d5:h.k=1
     ·
      have br:=hd d5
      have cr:Hd ((-100000<=h.lo/\h.lo<=100000)/\(-100000<=h.hi/\h.hi<=100000)/\(1<=h.step/\h.step<=100000)):=hd (by
       have:=bp.o;cases this with
       | loop _ _ _ _ _ _ _ h1 h2 h3=>exact⟨h1,h2,h3⟩
       | when _ _ _ h1=>omega
       | store _ _ h1=>omega)
      have HV:=hd (Aan b (k*21) h w10 (ae.o.held (aV.o 2 _ rfl) (jH)) (ae.o.held (aV.o 3 _ rfl) (jH)) (ae.o.held (aV.o 4 _ rfl) (jH)) cr.o.1 cr.o.2.1 cr.o.2.2);have qb:=aa.o.blk.cell;unfold Ck at qb;go_wp2_with fail
      clear qb a8;refine HV.o.mono ?_
      rintro r w2 ⟨rfl,hE⟩;have dd:=hd hE;have a6:=hd (aa.o.keep hE);clear hE;generalize hm:Ar h=m at *;have aO:=hd hm;clear hm d5;have qb:=a6.o.blk.cell;have qf:=a6.o.blk.frozen;have a8:=a6.o.blk.lt;unfold Ck at qb;go_upto_region 13 with fail
      have cs:=hd (a6.o.set 2 m (Ck b (k*21) ln m (.slice none 0 0) (.slice none 0 0) 0 (.slice (some g9) (xs ++ [(k:Int)]).length c9) 0 Ip (.pointer none) L1.length (0:Nat)) rfl);have ct:Hd (Ext [sb] w10 (w2.setCell ⟨sb,2,none⟩ m)):=hd (dd.o.nil.trans (jL (.inl (by simp)) (jF [sb] w2)));generalize World.setCell _ _ _=w3 at *;clear qb qf a8 a6 dd;have e0:=cs.o.sb1
      have e4:Hd (Ak w3 LA 1 ptC gl):=hd (aY.o.ext ct.o fun x hx bb o hA hxb=>by
       have h1:=c6.o bb o hA;rw[jA.1 hx] at hxb;omega)
      have a7:=hd (Aap LA ln lc gl w3 e4.o aj.o HZ.o);obtain⟨i0,aG,aH,aI,aJ⟩:=Qm;have f5:ln<=8:=by have:=H8.o;omega
      go_wp2_with fail
      refine a7.o.mono ?_
      rintro r w4 ⟨v',rfl,hE,hO⟩;have e5:=hd hE;have de:=hd hO;have cu:=hd (jK w4 117 #[ptV sb]);have e6:=hE.size;clear hE hO a7
      go_wp2_with (
       refine wpList_append_lies _ rfl _ _ 124 rfl w3.heap.size 117 i0 _ 1 8 underlying124 aG aH aI aJ rfl (by decide) _ ln (gl.map ptV) rfl ?c0 ⟨w4.heap.size,0,none⟩ 1 1 [ptV sb] rfl rfl ?c1 ?c2 (by omega) ?c3 ?c4 ?c5 _ rfl ?_
       case c0=>
        have:=Df de.o ((jF [] w4).alloc (.cells #[ptV sb] 117)) (by simp);unfold Ed at this;rw[List.length_map,aj.o] at this;exact this
       case c1=>exact Kt _ _ _ (cu.o.cell 0)
       case c2=>intro u hu;rw[jA.1 hu];rfl
       case c3=>unfold maxLen;omega
       case c4=>omega
       case c5=>exact nt e6 (jF [] w4 |>.alloc _).size
       intro g8 c8 w8 ho8 cy hi8 ha8;have cw:=hd (And.intro ho8 cy);have f6:=hd hi8;clear ho8 cy hi8 ha8)
      go_meet
      have cx:=hd ((e5.o.alloc (.cells #[ptV sb] 117)).grown cw.o.2 fun q hq=>.inr (Bt de.o hq).1);have df:=cs.o.keep cx.o;have cy:=Ad cw.o.1 g8 rfl;have e7:=cs.o.blk.lt;have bt:Ak w8 (some g8) 1 ptC (gl ++ [sb]):=Ack (f:=ptV) (by rw[List.map_append];exact cw.o.1) (by rw[jG,aj.o];simp;omega) ptC fun x=>rfl
      have e8:Gj w0.heap.size w8 (gl ++ [sb]) (names ++ [h.var]):=by
       refine((aX.o.ext ct.o (fun x hx=>?_) fun g hg hm=>?_).ext cx.o (by simp) (by simp)).snoc dZ (df.blk.cell 0) ((ae.o.nil.trans ct.o).trans cx.o.nil |>.held (aV.o 1 _ rfl) fun hm=>?_)
       ·rw[jA.1 hx];omega
       ·have:=dc.o g hg;rw[jA.1 hm] at this;omega
       ·have:=jA.1 hm;simp only at this;omega
      have ag:=Ak3 (c':=c8) br.o (by rw[aO.o,cp];exact df) ⟨rfl,ak.o.2.trans ak.o.1.symm⟩ (fun i g h=>h) (fun i g h=>h) bt (fun bb o hb hm=>?_) e8
      ·rw[aj.o] at ag;exact ag
      ·cases hb
       rcases jE.1 hm with h1|hm
       ·omega
       ·rcases jN.1 hm with hm|hm
        ·have:=bi.o _ hm;omega
        ·have:=(bj.o _ hm).2;omega
     ·have hk1':(h.k==1)=false:=by simpa using d5
      by_cases dM:h.k=2
      ·
       have br:=hd dM
       have dg:Hd ((∀a∈h.conds,Cn names a=0)/\h.conds.length<=4):=hd (by
        have:=bp.o;cases this with
        | loop _ _ _ h1=>omega
        | when _ _ _ _ _ h1 h2=>exact⟨h1,h2.2⟩
        | store _ _ h1=>omega)
       have dh:Hd (Ak w10 h.cA 2 afC h.conds):=hd (ay.o.all.1.keep (bh.o.trans ae.o));have f7:Hd (∀a∈h.conds,Jn w10 a):=hd fun a ha=>(ay.o.all.2.1 a ha).keep (bh.o.trans ae.o)
       have g6:w10.cell? ⟨b,k*21+6,none⟩=some (.slice h.cA h.conds.length h.cc):=ae.o.held (aV.o 6 _ rfl) (jH);obtain⟨cA,cY⟩:∃cA,h.cA=cA:=⟨_,rfl⟩;rw[cY] at dh g6;have cB:=hd cY;clear cY;generalize hm:h.conds.length=m at *;have aO:=hd hm;clear hm;have qb:=aa.o.blk.cell;have a8:=aa.o.blk.lt;unfold Ck at qb;have f8:m<=4:=dg.o.2;have e9:Hd (Ext [sb] w10 w10):=hd (jF _ _);go_wp2_with fail
       clear qb a8 g6;go_loopw [121] (fun i wr=>∃(j:Nat) (cv:Value),i=.int .i64 j/\j<=m/\Hd (Ext [sb] w10 wr)/\Hd (Lw wq wr cb B b0 b1 b2 (.slice sA L1.length sc) a1 (v.ownBlock.toList ++ X) sb (.slice sA L1.length sc) a1 L1 ah (Ck b (k*21) ln 0 cv (.slice none 0 0) 0 (.slice (some g9) (xs ++ [(k:Int)]).length c9) 0 Ip (.pointer none) L1.length (0:Nat)) (some g9) (xs ++ [(k:Int)]))/\Hd (wr.ownsRow w10.heap.size 126 9 cv j ((h.conds.take j).flatMap (lnL names)))) (fun i _=>(m-intOf i).toNat)
       case atStart=>exact⟨0,_,rfl,jQ _,e9,aa,hd ⟨by simp,.inl ⟨rfl,rfl⟩⟩⟩
       case round=>
        obtain⟨j,cv,rfl,eO,bn,dH,a7⟩:=hrel;rename World=>wj
        by_cases fh:j<m
        ·have f9:(j:Int)<(m:Int):=by omega
         obtain⟨ca,a,rfl,cZ,d0⟩:=dh.o.at (i:=j) (by have:=aO.o;omega);have ea:=hd cZ;have af:=ilm cZ;have cC:=hd (fun W (hW:Ext [sb] w10 W)=>Rv a LA ln lc gl names W ((ay.o.all.2.1 a af).keep (an.o W hW).2.2) (an.o W hW).1 (an.o W hW).2.1.n aj.o H8.o (Jo (dg.o.1 a af)).2.2.2.2)
         have cD:ca<w0.heap.size:=by
          obtain⟨b',x',e1,e2,e3⟩:=ay.o.all.1.at (i:=j) (by have:=aO.o;omega);rw[cB.o] at e1;cases e1
          exact jB w0 _ (e3 0 _ rfl)
         have bu:ca∉[sb]:=fun hm=>by rw[jA.1 hm] at cD;omega
         have g0:wj.cell? ⟨ca,j*2,none⟩=some (.int .i64 a.base):=bn.o.held (d0 0 _ rfl) bu;have g1:wj.cell? ⟨ca,j*2+1,none⟩=some (.slice a.A a.ts.length a.cap):=bn.o.held (d0 1 _ rfl) bu;have cE:=jB wj _ g0;simp only at cE;clear d0 af cZ bu;have eb:=bn.o.size;have bv:=hd (jK wj 38 #[.int .i64 a.base,.slice a.A a.ts.length a.cap]);have di:=hd (bn.o.alloc (.cells #[.int .i64 a.base,.slice a.A a.ts.length a.cap] 38));have dj:=hd ((jF [] wj).alloc (.cells #[.int .i64 a.base,.slice a.A a.ts.length a.cap] 38));go_upto_region 18 with fail
         generalize World.alloc wj _=wk at *;generalize d4:wj.heap.size=ab at *;have b3:=hd (dH.o.keep dj.o);have cF:=hd (Ah a7.o dj.o (by simp))
         have bx:Hd (∀q∈cv.ownBlock.toList,w10.heap.size<=q/\q<ab):=hd fun q hq=>by
          have h1:=a7.o.lt q (jC.1 hq);rw[d4] at h1;exact h1
         have bz:=aa.o.blk.lt;have dk:w10.heap.size<=ab:=d4 ▸ eb;have ec:=bv.o.lt;have b4:Hd (sb∉cv.ownBlock.toList):=hd fun hm=>by have:=(bx.o sb hm).1;omega
         have c7:Hd (ab∉cv.ownBlock.toList):=hd fun hm=>by have:=(bx.o ab hm).2;omega
         generalize aU:lnL names a=news at *;have ce:=hd aU;clear aU d4;obtain⟨i0,aG,aH,aI,aJ⟩:=Acl;have bk:((h.conds.take j).flatMap (lnL names)).length=j*9:=by rw[Afw _ 9 (fun x=>rfl),List.length_take,aO.o,Nat.min_eq_left eO]
         generalize dK:(h.conds.take j).flatMap (lnL names)=ys at *;have ed:=hd dK;have cG:=hd bk;clear dK bk;refine rgW 12 cv.ownBlock.toList (fun p y=>cv.ownBlock=some p.block/\∃q,p.off=j*9+q/\news[q]? = some y) [(7,Cx (.agg (Bl a.base (Bq names a.ts)))),(8,Aq wk.heap.size news),(9,Bo w10.heap.size 126 9 j (ys ++ news) (fun g=>cv.ownBlock=some g\/wk.heap.size<=g))] ?_ ?_
         ·refine Am.cons Cx.stays (Am.cons (Aq.stays fun b j u y hb hu hf=>?_) (Am.cons (Bo.stays fun g i x y _ hx hf=>?_) Am.nil))
          ·have:=(bx.o b (jC.2 hf.1)).2;omega
          ·obtain⟨-,q,hq,hy⟩:=hf;simp only at hq;subst hq;rw[jM (by rw[cG.o];omega),cG.o,Nat.add_sub_cancel_left,hy] at hx;exact Option.some.inj hx
         simp only[TK]
         repeat(refine dE (fun wr nr hJ=>by(have qb:=(b3.o.blk.ext hJ.1 b4.o).cell;have a8:=(b3.o.blk.ext hJ.1 b4.o).lt;have qa:=(bv.o.ext hJ.1 c7.o).cell;have ee:=(bv.o.ext hJ.1 c7.o).lt;unfold Ck at qb);clear hJ;exact CL) ?_;simp only[PT])
         refine Lu (Cx (.agg (Bl a.base (Bq names a.ts)))) rfl rfl ?_ ?_
         ·refine EC fun wr nr hJ hf=>?_
          refine(cC.o wr (di.o.step hJ.1 fun x hx=>.inr (bx.o x hx).1)).mono ?_
          rintro e w' ⟨rfl,hE⟩;exact⟨(),rfl,trivial,hE⟩
         rintro⟨⟩;simp only[PT]
         repeat(refine dE (fun wr nr hJ=>by(have qb:=(b3.o.blk.ext hJ.1 b4.o).cell;have a8:=(b3.o.blk.ext hJ.1 b4.o).lt;have qa:=(bv.o.ext hJ.1 c7.o).cell;have ee:=(bv.o.ext hJ.1 c7.o).lt;unfold Ck at qb);clear hJ;exact CL) ?_;simp only[PT])
         refine Eg (Aq wk.heap.size news) rfl rfl (fun wr nr hJ hf=>?_) ?_
         ·refine⟨wr.heap.size,.cells (Bl a.base (Bq names a.ts)) 126,?_,Ext.size hJ.1,fun j u hu=>?_⟩
          ·refine As rfl _ _ _ _ (.agg (Bl a.base (Bq names a.ts))) ?_ ?_
           ·rfl
           ·exact Afz wr a.base (Bq names a.ts)
          ·rw[(jK wr 126 (Bl a.base (Bq names a.ts))).cell j];rw[<-ce.o] at hu;unfold lnL at hu;rw[Array.getElem?_toList] at hu;exact hu
         intro (b8:Nat);simp only[PT];refine Lv w10.heap.size b8 123 126 i0 _ 9 72 cv j 1 ys news (fun g=>cv.ownBlock=some g\/wk.heap.size<=g) _ _ rfl rfl rfl (by kernel_rfl) aG aH aI aJ rfl (by decide) rfl rfl (by rw[<-ce.o];rfl) (fun u hu=>?_) (fun w' n' hJ hf=>?_) (by omega) (fun g hg hb=>.inl (jC.2 hg)) (fun g hg=>hg.imp And.left id) (fun g q u hg hb hu=>⟨hg,q,rfl,hu⟩) ?_ ?_ ?_
         ·rw[<-ce.o] at hu;unfold lnL Bl at hu;simp only[jE,jH,or_false] at hu;rcases hu with rfl|rfl|rfl|rfl|rfl|rfl|rfl|rfl|rfl<;>rfl
         ·have h8:(Aq wk.heap.size news).V b8 w':=Bd hf 8 (by kernel_rfl)
          exact⟨Ho cF.o hJ.2 fun g i x y hg hx hy=>by
           obtain⟨-,q,hq,-⟩:=hy;have h1:=(ils hx).1;simp only at hq;rw[cG.o] at h1;omega,h8.2⟩
         ·unfold maxLen;omega
         ·omega
         intro u9;simp only[PT]
         repeat(refine dE (fun wr nr hJ=>by(have qb:=(b3.o.blk.ext hJ.1 b4.o).cell;have a8:=(b3.o.blk.ext hJ.1 b4.o).lt);clear hJ;exact CL) ?_;simp only[PT])
         refine Aj (fun wz hJ hF=>?_)
         obtain⟨gz,cz⟩:=u9;have hz:(Bo w10.heap.size 126 9 j (ys ++ news) (fun g=>cv.ownBlock=some g\/wk.heap.size<=g)).V (gz,cz) wz:=hF 9;have dl:Hd (wz.ownsRow w10.heap.size 126 9 (.slice (some gz) (j+1) cz) (j+1) (ys ++ news)):=hd hz.1;have dm:=hd hJ.1;clear hF hJ hz;dsimp only[Bo];have ef:Hd (Ext (sb :: cv.ownBlock.toList) w10 wz):=hd (((di.o.mono fun x hx=>.inl (by rw[jA.1 hx];simp)):Ext (sb :: cv.ownBlock.toList) w10 wk).trans (dm.o.mono fun x hx=>.inl (jI _ hx)));have cf:=hd (b3.o.blk.ext dm.o b4.o);have qb:=cf.o.cell;have qf:=cf.o.frozen;have a8:=cf.o.lt;unfold Ck at qb
         have eg:Hd (gz≠sb):=hd fun h=>by
          have ei:=Ad dl.o gz rfl;rw[h] at ei;have:=aa.o.blk.lt;omega
         go_wp2_with fail
         go_roundw
         case rel=>
          have dn:Ext (sb :: cv.ownBlock.toList) w10 (wz.setCell ⟨sb,3,none⟩ (.slice (some gz) (j+1) cz)):=ef.o.trans (jL (.inl (by simp)) (jF _ wz))
          have hS:∀x∈sb :: cv.ownBlock.toList,x=sb\/w10.heap.size<=x:=fun x hx=>by
           rcases jE.1 hx with rfl|hx
           ·exact .inl rfl
           ·exact .inr (bx.o x hx).1
          refine⟨j+1,.slice (some gz) (j+1) cz,by go_num,by omega,hd (dn.mono fun x hx=>(hS x hx).imp (fun h=>by rw[h];simp) id),hd (aa.o.later hBc dn hS (cf.o.set_' 3 _ _ rfl)),hd ?_⟩
          have dp:(wz.setCell ⟨sb,3,none⟩ (.slice (some gz) (j+1) cz)).ownsRow w10.heap.size 126 9 (.slice (some gz) (j+1) cz) (j+1) (ys ++ news):=Ah dl.o (jL (.inl (by simp)) (jF [sb] wz)) fun q hq=>by
           cases hq
           rw[jA];exact eg.o
          rw[<-ed.o,<-ce.o] at dp;rw[List.take_add_one,ea.o,Option.toList_some,List.flatMap_append,List.flatMap_singleton];exact dp
         case measure=>simp[intOf];omega
        ·have cH:j=m:=by omega
         subst cH;have cg:h.conds.take j=h.conds:=List.take_of_length_le (by rw[aO.o];exact jD _);have bA:=a7.o;rw[cg] at bA;obtain⟨CA,cc,rfl,bu,dI⟩:=Yc (lnL names) (fun x=>rfl) bA aO.o (by omega);go_wp2_with fail
         go_meet
         have bB:=an.o wj bn.o;have ej:=bn.o.size;have bz:=aa.o.blk.lt
         have az:∀q∈sb :: (v.ownBlock.toList ++ X ++ TS cb (.slice sA L1.length sc) a1),q<w10.heap.size:=fun q hq=>by
          rcases jE.1 hq with h1|hq
          ·omega
          ·rcases jN.1 hq with hq|hq
           ·have:=bi.o _ hq;omega
           ·have:=(bj.o _ hq).2;omega
         have ag:=Ak4 (c':=lc) br.o (by rw[aO.o,cp];exact dH.o) ⟨rfl,ak.o.2.trans ak.o.1.symm⟩ (fun i g h=>h) (fun i g h=>h) ⟨bu,fun bb o hb=>⟨(dI bb o hb).2,fun hm=>by have:=(dI bb o hb).1;have:=az _ hm;omega⟩⟩ bB.1 (by rw[aj.o];exact HZ.o) aZ.o bB.2.1;rw[aj.o] at ag;exact ag
      ·
       have hk2':(h.k==2)=false:=by simpa using dM
       have dq:h.k=3:=by
        have:=bp.o;cases this with
        | loop _ _ _ h1=>omega
        | when _ _ _ h1=>omega
        | store _ _ h1=>exact h1
       have br:=hd dq;clear dq
       have dr:Hd (Cn names h.at_=0/\Bs names nb h.val=0):=hd (by
        have:=bp.o;cases this with
        | loop _ _ _ h1=>omega
        | when _ _ _ h1=>omega
        | store _ _ _ _ _ h1 h2=>exact⟨h1,h2⟩)
       have qb:=aa.o.blk.cell;have qf:=aa.o.blk.frozen;have a8:=aa.o.blk.lt;unfold Ck at qb;have qc:=aa.o.cd.blk.cell;have am:=aa.o.cd.blk.lt;go_upto_region 9 with fail
       have aP:=hd (aa.o.set 5 L1.length (Ck b (k*21) ln 0 (.slice none 0 0) (.slice none 0 0) L1.length (.slice (some g9) (xs ++ [(k:Int)]).length c9) 0 Ip (.pointer none) L1.length (0:Nat)) rfl);have aA:Hd (Ext [sb] w10 (w10.setCell ⟨sb,5,none⟩ L1.length)):=hd (jL (.inl (by simp)) (jF [sb] w10));generalize World.setCell _ _ _=w11 at *;clear qb qf a8 qc am;have fa:=aA.o.size;have fb:b≠sb:=by have:=dV.o sb cq;omega
       have cI:Hd (∀(j:Nat) (v:Value),(stH h bs.length)[j]? = some v->w11.cell? ⟨b,k*21+j,none⟩=some v):=hd fun j v hv=>(an.o w11 aA.o).2.2.held (bq.o j v hv) (jH)
       have cJ:Hd (∀t∈sb :: (v.ownBlock.toList ++ X ++ TS cb (.slice sA L1.length sc) a1),w0.heap.size<=t/\t<w11.heap.size):=hd fun q hq=>by
        rcases jE.1 hq with rfl|hq
        ·exact⟨by omega,aP.o.blk.lt⟩
        ·have fc:=aa.o.ext.size;rcases jN.1 hq with hq|hq
         ·refine⟨?_,by have:=bi.o _ hq;omega⟩
          rcases jN.1 hq with hq|hq
          ·have:=(Bt HO.o (jC.1 hq)).1;have:=bX.o.size;omega
          ·exact(HX.o _ hq).1
         ·have:=bj.o _ hq;omega
       generalize dL:sb :: (v.ownBlock.toList ++ X ++ TS cb (.slice sA L1.length sc) a1)=T9 at *;have bC:=hd dL;clear dL;have ek:Hd (Gu w0 h.val):=hd ay.o.all.2.2.2.1
       have el:Hd (∀(j:Nat) (v:Value),(exC h.val)[j]? = some v->w0.cell? ⟨b,k*21+11+j,none⟩=some v):=hd fun j u hu=>by
        have h1:(stH h bs.length)[11+j]? = (exC h.val)[j]?:=by
         cases hv:h.val with
         | mk eh ks=>
          rcases Nat.lt_or_ge j 10 with hj|hj
          ·have:j=0\/j=1\/j=2\/j=3\/j=4\/j=5\/j=6\/j=7\/j=8\/j=9:=by omega
           unfold stH;rw[hv];rcases this with rfl|rfl|rfl|rfl|rfl|rfl|rfl|rfl|rfl|rfl<;>rfl
          ·rw[List.getElem?_eq_none (by simp[stH,stK];omega),List.getElem?_eq_none (by simp[exC,exH];omega)]
        rw[Nat.add_assoc];exact bq.o (11+j) u (h1.trans hu)
       have cC:=hd (fun W (hW:Ext [] w11 W)=>Rv h.at_ LA ln lc gl names W (ay.o.all.2.2.1.keep ((an.o w11 aA.o).2.2.trans hW)) ((an.o w11 aA.o).1.keep hW) ((an.o w11 aA.o).2.1.n.keep hW) aj.o H8.o (Jo dr.o.1).2.2.2.2);have em:=hd (fun W (hW:Ext [] w11 W)=>Aii h.val b (k*21+11) LA ln lc gl names nb T9 w0 W ek.o el.o ((an.o w11 aA.o).2.2.trans hW) ((an.o w11 aA.o).1.keep hW) ((an.o w11 aA.o).2.1.n.keep hW) aj.o H8.o dr.o.2 (fun t ht=>⟨(cJ.o t ht).1,nl (cJ.o t ht).2 hW.size⟩));have en:=cI.o 9 _ rfl;have cK:=hd (show w11.cell? ⟨b,k*21+9,none⟩=some (.int .i64 h.at_.base) from cI.o 9 _ rfl);have b5:=hd (show w11.cell? ⟨b,k*21+10,none⟩=some (.slice h.at_.A h.at_.ts.length h.at_.cap) from cI.o 10 _ rfl);clear en;have bD:Hd (sb∈T9):=hd (by rw[<-bC.o];simp);refine rgA 22 21 [sb] [(10,Cx (.agg (Bl h.at_.base (Bq names h.at_.ts)))),(18,sCE w11.heap.size T9 names h.val),(21,⟨Unit,(),fun _=>undef,fun _ w=>Blk w sb 129 (Ck b (k*21) ln 0 (.slice none 0 0) (.slice none 0 0) L1.length (.slice (some g9) (xs ++ [(k:Int)]).length c9) h.at_.base (Bq names h.at_.ts) (.pointer none) L1.length (0:Nat))⟩)] rfl (by simp[Bi]) (fun oi h=>by cases h;rfl) ?_ ?_
       ·exact Lt (fun j hj u w w' hR h=>trivial) (fun j hj u w w' hR h=>⟨h.1,h.2.step hR.all (fun x hx=>.inl (by rw[jA.1 hx];exact bD.o)) hR.all.size fun x hx=>.inl hx⟩) fun j hj u w w' hR h=>h.ext (hR.pre hj) (by simp)
       simp only[TK]
       repeat(refine dEU (fun wr nr hg hJ=>by(clear hg);clear hJ;exact CL) ?_;simp only[PT])
       refine dEU (fun wr nr hg hJ=>by(have hA:=hJ.pre (hg.later 21 (by kernel_rfl));have qb:=(aP.o.blk.ext hA (jH)).cell;have a8:=(aP.o.blk.ext hA (jH)).lt;have q9:=Ext.held hA cK.o (jH);have ds:=Ext.held hA b5.o (jH);have bE:=jB wr _ q9;simp only at bE;unfold Ck at qb;clear hA hg);clear hJ;exact CL) ?_
       simp only[PT]
       repeat(refine dEU (fun wr nr hg hJ=>by(clear hg);clear hJ;exact CL) ?_;simp only[PT])
       refine dEU (fun wr nr hg hJ=>by(have hA:=hJ.pre (hg.later 21 (by kernel_rfl));have qb:=(aP.o.blk.ext hA (jH)).cell;have a8:=(aP.o.blk.ext hA (jH)).lt;have q9:=Ext.held hA cK.o (jH);have ds:=Ext.held hA b5.o (jH);have bE:=jB wr _ q9;simp only at bE;unfold Ck at qb;clear hA hg);clear hJ;exact CL) ?_
       simp only[PT]
       repeat(refine dEU (fun wr nr hg hJ=>by(clear hg);clear hJ;exact CL) ?_;simp only[PT])
       refine Oh (Cx (.agg (Bl h.at_.base (Bq names h.at_.ts)))) rfl rfl (by decide) ?_ ?_
       ·refine EC fun wr r hg hJ hf=>?_
        refine(cC.o wr (hJ.pre (hg.later 21 (by kernel_rfl)))).mono ?_
        rintro e w' ⟨rfl,hE⟩;exact⟨(),rfl,trivial,hE⟩
       rintro⟨⟩;simp only[PT]
       repeat(refine dEU (fun wr nr hg hJ=>by(clear hg);clear hJ;exact CL) ?_;simp only[PT])
       refine dEU (fun wr nr hg hJ=>by(have hA:=hJ.pre (hg.later 21 (by kernel_rfl));have qb:=(aP.o.blk.ext hA (jH)).cell;have a8:=(aP.o.blk.ext hA (jH)).lt;have q9:=Ext.held hA cK.o (jH);have ds:=Ext.held hA b5.o (jH);have bE:=jB wr _ q9;simp only at bE;unfold Ck at qb;clear hA hg);clear hJ;exact CL) ?_
       simp only[PT]
       repeat(refine dEU (fun wr nr hg hJ=>by(clear hg);clear hJ;exact CL) ?_;simp only[PT])
       refine Oh (sCE w11.heap.size T9 names h.val) rfl rfl (by decide) ?_ ?_
       ·refine EC fun wr r hg hJ hf=>?_
        have hW:=hJ.pre (hg.later 21 (by kernel_rfl));refine(em.o wr hW).mono ?_
        rintro e w' ⟨g,rfl,hE,hg,hX⟩;exact⟨g,rfl,⟨nt hW.size hg,hX⟩,hE⟩
       intro (vb:Nat);simp only[PT]
       repeat(refine dEU (fun wr nr hg hJ=>by(clear hg);clear hJ;exact CL) ?_;simp only[PT])
       refine Dq _ rfl rfl (fun _=>rfl) (fun w12 r hg hJ hf=>?_) ?_
       ·have hA:=hJ.pre hg.mine;have bF:=aP.o.blk.ext hA (jH);have bG:=bF.many (Bl h.at_.base (Bq names h.at_.ts)).toList 7;rw[Afy] at bG;have bH:Ext [sb] w12 (w12.setCells sb 7 (Bl h.at_.base (Bq names h.at_.ts)).toList):=Ext.many (.inl (by simp)) _ _ _ (jF _ _);refine⟨(),w12.setCells sb 7 (Bl h.at_.base (Bq names h.at_.ts)).toList,?_,bG,hJ.app bH,by unfold RA1;rw[ijp rfl];exact bH⟩
        refine Er rfl _ w12 sb 7 (Bl h.at_.base (Bq names h.at_.ts)) _ 129 ?_ ?_ bF ?_ Wm (Us _ _)
        ·rfl
        ·rfl
        ·exact Nat.le_of_ble_eq_true rfl
       rintro⟨⟩;simp only[PT];refine Ci (fun w13 r hr hJ hF=>?_)
       have hv:(sCE w11.heap.size T9 names h.val).V vb w13:=hF 18;have hb:Blk w13 sb 129 (Ck b (k*21) ln 0 (.slice none 0 0) (.slice none 0 0) L1.length (.slice (some g9) (xs ++ [(k:Int)]).length c9) h.at_.base (Bq names h.at_.ts) (.pointer none) L1.length (0:Nat)):=hF 21;have eo:=hd hv.2;have fe:=hd hv.1;have au:=hd hb;have cL:Hd (Ext [sb] w11 w13):=hd hJ.all;clear hF hJ hv hb hr;have b6:=hd (au.o.set_' 16 (ptV vb) (Ck b (k*21) ln 0 (.slice none 0 0) (.slice none 0 0) L1.length (.slice (some g9) (xs ++ [(k:Int)]).length c9) h.at_.base (Bq names h.at_.ts) (ptV vb) L1.length (0:Nat)) rfl);have ba:=hd (jL (b:=sb) (i:=16) (u:=ptV vb) (.inl (by simp)) (jF [sb] w13));have qb:=au.o.cell;have qf:=au.o.frozen;have a8:=au.o.lt;unfold Ck at qb;dsimp only[sCE];go_upto_region 10 with fail
       have bI:Hd (Ext [sb] w11 (w13.setCell ⟨sb,16,none⟩ (ptV vb))):=hd (cL.o.trans ba.o);change Code.wp _ _ _ _ (w13.setCell ⟨sb,16,none⟩ (ptV vb));generalize World.setCell _ _ _=w14 at *;clear qb qf a8 au;have bc:Hd (Ext [sb] w10 w14):=hd (aA.o.trans bI.o);have ac:=hd (aa.o.later hBc bc.o (fun x hx=>.inl (jA.1 hx)) b6.o);have a2:=hd ac.o.cd;have aQ:Hd (ah.length=L1.length):=hd (ak.o.2.trans ak.o.1.symm);have ep:=bI.o.size
       have ao:Hd (∀g,(Value.slice sA L1.length sc).ownBlock=some g->B<=g/\g<w14.heap.size/\g≠cb/\g≠sb/\a1.ownBlock≠some g):=hd fun g hg=>by
        have h1:=Bt a2.o.st hg;refine⟨h1.1,h1.2,fun e=>?_,fun e=>ac.o.sb2 (e ▸ jI _ (jN.2 (.inl (by rw[hg];simp)))),fun e=>?_⟩
        ·obtain⟨C,hC⟩:=Cl a2.o.st hg;rw[e] at hC;exact absurd (Blk.type hC a2.o.blk) (by decide)
        ·obtain⟨C,hC⟩:=Cl a2.o.st hg;obtain⟨D,hD⟩:=Cl a2.o.ar e;exact absurd (Blk.type hC hD) (by decide)
       have aR:Hd (∀g,a1.ownBlock=some g->B<=g/\g<w14.heap.size/\g≠cb/\g≠sb):=hd fun g hg=>by
        have h1:=Bt a2.o.ar hg;refine⟨h1.1,h1.2,fun e=>?_,fun e=>ac.o.sb2 (e ▸ jI _ (jN.2 (.inr (by rw[hg];simp))))⟩
        obtain⟨C,hC⟩:=Cl a2.o.ar hg;rw[e] at hC;exact absurd (Blk.type hC a2.o.blk) (by decide)
       have aS:cb<w14.heap.size:=a2.o.blk.lt;have dt:Hd (B<=w14.heap.size):=hd (by omega);obtain⟨i0,aG,aH,aI,aJ⟩:=Qm;obtain⟨i1,eP,eQ,eR,eS⟩:=Aik
       have eq:Hd (∀i y,¬((Addr.mk cb i none).off=L1.length/\(((Value.slice sA L1.length sc).ownBlock=some (Addr.mk cb i none).block/\y=ptV sb)\/(a1.ownBlock=some (Addr.mk cb i none).block/\y=Value.slice LA ln lc)))):=hd fun i y h=>by
        rcases h.2 with h1|h1
        ·exact(ao.o cb h1.1).2.2.1 rfl
        ·exact(aR.o cb h1.1).2.2.1 rfl
       have bJ:Hd (cb∉(Value.slice sA L1.length sc).ownBlock.toList ++ a1.ownBlock.toList):=hd fun h=>by
        rcases jN.1 h with h1|h1
        ·exact(ao.o cb (jC.1 h1)).2.2.1 rfl
        ·exact(aR.o cb (jC.1 h1)).2.2.1 rfl
       refine rgK 19 18 cb ((Value.slice sA L1.length sc).ownBlock.toList ++ a1.ownBlock.toList) (fun p y=>p.off=L1.length/\(((Value.slice sA L1.length sc).ownBlock=some p.block/\y=ptV sb)\/(a1.ownBlock=some p.block/\y=Value.slice LA ln lc)))
        [(7,Aq w14.heap.size [ptV sb]),(8,Bo B 117 1 L1.length (L1.map ptV ++ [ptV sb]) (fun g=>(Value.slice sA L1.length sc).ownBlock=some g\/w14.heap.size<=g)),
         (14,Aq w14.heap.size [Value.slice LA ln lc]),(15,Bo B 124 1 L1.length (ah ++ [Value.slice LA ln lc]) (fun g=>a1.ownBlock=some g\/w14.heap.size<=g)),
         (18,⟨Nat×Nat,(0,0),fun _=>undef,fun u w=>Blk w cb 174 #[b0,b1,b2,.slice (some u.1) (L1.length+1:Nat) u.2,a1]/\(Bo B 117 1 L1.length (L1.map ptV ++ [ptV sb]) (fun g=>(Value.slice sA L1.length sc).ownBlock=some g\/w14.heap.size<=g)).V u w⟩)] rfl (by simp[Bi]) (fun oi h=>by cases h;rfl) ?_ ?_
       ·refine Cp.done (Cp.cons (Aq.staysK aS fun b j u y hb hu hf=>?_) (Cp.cons (Bo.staysK (fun h=>?_) fun g i x y hg hx hf=>?_) (Cp.cons (Aq.staysK aS fun b j u y hb hu hf=>?_) (Cp.cons (Bo.staysK (fun h=>?_) fun g i x y hg hx hf=>?_) (Cp.cons (fun j hj x w w' hR hV=>⟨hV.1.rw (hR.rw hj) eq.o,Bo.staysK (fun h=>?_) (fun g i x y hg hx hf=>?_) j hj x w w' hR hV.2⟩) Cp.nil)))))
        ·rcases hf.2 with h1|h1
         ·have:=(ao.o b h1.1).2.1;omega
         ·have:=(aR.o b h1.1).2.1;omega
        ·rcases h with h1|h1
         ·exact(ao.o cb h1).2.2.1 rfl
         ·omega
        ·obtain⟨h1,h2⟩:=hf;simp only at h1;subst h1;rcases h2 with h2|h2
         ·rw[jM (by simp),List.length_map,Nat.sub_self] at hx;cases hx
          exact h2.2
         ·rcases hg with h3|h3
          ·exact absurd h2.1 (ao.o g h3).2.2.2.2
          ·have:=(aR.o g h2.1).2.1;omega
        ·rcases hf.2 with h1|h1
         ·have:=(ao.o b h1.1).2.1;omega
         ·have:=(aR.o b h1.1).2.1;omega
        ·rcases h with h1|h1
         ·exact(aR.o cb h1).2.2.1 rfl
         ·omega
        ·obtain⟨h1,h2⟩:=hf;simp only at h1;subst h1;rcases h2 with h2|h2
         ·rcases hg with h3|h3
          ·exact absurd h3 (ao.o g h2.1).2.2.2.2
          ·have:=(ao.o g h2.1).2.1;omega
         ·rw[jM (by rw[aQ.o];exact jD _),aQ.o,Nat.sub_self] at hx;cases hx
          exact h2.2
        ·rcases h with h1|h1
         ·exact(ao.o cb h1).2.2.1 rfl
         ·omega
        ·obtain⟨h1,h2⟩:=hf;simp only at h1;subst h1;rcases h2 with h2|h2
         ·rw[jM (by simp),List.length_map,Nat.sub_self] at hx;cases hx
          exact h2.2
         ·rcases hg with h3|h3
          ·exact absurd h2.1 (ao.o g h3).2.2.2.2
          ·have:=(aR.o g h2.1).2.1;omega
       simp only[TK]
       repeat(refine dEU (fun wr nr hg hJ=>by(clear hg);clear hJ;exact CL) ?_;simp only[PT])
       refine dEU (fun wr nr hg hJ=>by(have hA:=hJ.pre (hg.later 18 (by kernel_rfl));have qc:=(a2.o.blk.ext hA.1 bJ.o).cell;have am:=(a2.o.blk.ext hA.1 bJ.o).lt;clear hA hg);clear hJ;exact CL) ?_
       simp only[PT]
       repeat(refine dEU (fun wr nr hg hJ=>by(clear hg);clear hJ;exact CL) ?_;simp only[PT])
       refine Jz (Aq w14.heap.size [ptV sb]) rfl rfl (by decide) (fun wr r hg hJ hf=>?_) ?_
       ·refine⟨wr.heap.size,.cells #[ptV sb] 117,?_,hJ.all.size,Cs _ _ _ ((jK wr 117 #[ptV sb]).cell 0)⟩
        (go_simp;try go_bits)
        first|rfl|exact⟨rfl,rfl⟩
       intro (b7:Nat);simp only[PT];refine Kb B b7 124 117 i0 _ 1 8 (.slice sA L1.length sc) L1.length 1 (L1.map ptV) [ptV sb] (fun g=>(Value.slice sA L1.length sc).ownBlock=some g\/w14.heap.size<=g) _ _ (by decide) rfl rfl rfl (by kernel_rfl) aG aH aI aJ rfl (by decide) rfl rfl rfl (fun u hu=>by rw[jA.1 hu];rfl) (fun w' r hg hJ hf=>?_) dt.o (fun g hg hb=>.inl (jN.2 (.inl (jC.2 hg)))) (fun g hg=>hg.imp And.left id) (fun g j u hg hb hu=>?_) ?_ ?_ ?_
       ·have ax:=hg.later 18 (by kernel_rfl);have h7:(Aq w14.heap.size [ptV sb]).V b7 w':=Bd hf 7 (by kernel_rfl);refine⟨ax,?_,h7.2⟩
        have h9:=Ho a2.o.st (hJ.pre ax).2 fun g i x y hg hx hy=>by
         have h1:=(ils hx).1;rw[List.length_map] at h1;have h2:i=L1.length:=hy.1;omega
        rw[List.length_map] at h9;exact h9
       ·have h1:j=0:=by have:=(ils hu).1;simp at this;exact this
        subst h1;cases hu
        exact⟨by simp,.inl ⟨hg,rfl⟩⟩
       ·unfold maxLen;omega
       ·omega
       intro u8;simp only[PT]
       repeat(refine dEU (fun wr nr hg hJ=>by(clear hg);clear hJ;exact CL) ?_;simp only[PT])
       refine dEU (fun wr nr hg hJ=>by(have hA:=hJ.pre (hg.later 18 (by kernel_rfl));have qc:=(a2.o.blk.ext hA.1 bJ.o).cell;have am:=(a2.o.blk.ext hA.1 bJ.o).lt;clear hA hg);clear hJ;exact CL) ?_
       simp only[PT]
       repeat(refine dEU (fun wr nr hg hJ=>by(clear hg);clear hJ;exact CL) ?_;simp only[PT])
       refine Jz (Aq w14.heap.size [Value.slice LA ln lc]) rfl rfl (by decide) (fun wr r hg hJ hf=>?_) ?_
       ·refine⟨wr.heap.size,.cells #[Value.slice LA ln lc] 124,?_,hJ.all.size,Cs _ _ _ ((jK wr 124 #[Value.slice LA ln lc]).cell 0)⟩
        (go_simp;try go_bits)
        first|rfl|exact⟨rfl,rfl⟩
       intro (b14:Nat);simp only[PT];refine Kb B b14 172 124 i1 _ 1 24 a1 L1.length 1 ah [Value.slice LA ln lc] (fun g=>a1.ownBlock=some g\/w14.heap.size<=g) _ _ (by decide) rfl rfl rfl (by kernel_rfl) eP eQ eR eS rfl (by decide) rfl rfl rfl (fun u hu=>by rw[jA.1 hu];rfl) (fun w' r hg hJ hf=>?_) dt.o (fun g hg hb=>.inl (jN.2 (.inr (jC.2 hg)))) (fun g hg=>hg.imp And.left id) (fun g j u hg hb hu=>?_) ?_ ?_ ?_
       ·have ax:=hg.later 18 (by kernel_rfl);have h7:(Aq w14.heap.size [Value.slice LA ln lc]).V b14 w':=Bd hf 14 (by kernel_rfl);refine⟨ax,?_,h7.2⟩
        have h9:=Ho a2.o.ar (hJ.pre ax).2 fun g i x y hg hx hy=>by
         have h1:=(ils hx).1;rw[aQ.o] at h1;have h2:i=L1.length:=hy.1;omega
        rw[aQ.o] at h9;exact h9
       ·have h1:j=0:=by have:=(ils hu).1;simp at this;exact this
        subst h1;cases hu
        exact⟨by simp,.inr ⟨hg,rfl⟩⟩
       ·unfold maxLen;omega
       ·omega
       intro u15;simp only[PT]
       repeat(refine dEU (fun wr nr hg hJ=>by(clear hg);clear hJ;exact CL) ?_;simp only[PT])
       refine Dq _ rfl rfl (fun _=>rfl) (fun wr r hg hJ hf=>?_) ?_
       ·have hA:=hJ.pre hg.mine;have hB:=a2.o.blk.ext hA.1 bJ.o;have h8:=Bd hf 8 (by kernel_rfl);have hE:Ext [cb] wr (wr.setCell ⟨cb,2+1,none⟩ (.slice (some u8.1) (L1.length+1:Nat) u8.2)):=jL (.inl (by simp)) (jF _ _);have h9:(Bo B 117 1 L1.length (L1.map ptV ++ [ptV sb]) (fun g=>(Value.slice sA L1.length sc).ownBlock=some g\/w14.heap.size<=g)).V u8 wr:=h8;refine⟨u8,wr.setCell ⟨cb,3,none⟩ (.slice (some u8.1) (L1.length+1:Nat) u8.2),?_,⟨hB.set_' 3 _ _ rfl,Ah h9.1 hE fun q hq hm=>?_,h9.2⟩,hJ.save hE,by unfold RK;rw[ijp rfl];exact hE⟩
        ·have qc:=hB.cell;have qf:=hB.frozen;have am:=hB.lt;clear hJ hg hf hA hE h8 h9;(go_simp;try go_bits)
        ·cases hq
         have h1:=jA.1 hm;rcases h9.2 with h2|h2
         ·exact(ao.o _ h2).2.2.1 h1
         ·have h3:u8.1=cb:=h1;have h4:w14.heap.size<=u8.1:=h2;omega
       intro (u18:Nat×Nat);simp only[PT];refine Ci (fun w15 r hr hJ hF=>?_)
       obtain⟨g8,c8⟩:=u18;obtain⟨aq,aK⟩:=u15;have ax:Blk w15 cb 174 #[b0,b1,b2,.slice (some g8) (L1.length+1:Nat) c8,a1]/\(Bo B 117 1 L1.length (L1.map ptV ++ [ptV sb]) (fun g=>(Value.slice sA L1.length sc).ownBlock=some g\/w14.heap.size<=g)).V (g8,c8) w15:=hF 18;have cM:(Bo B 124 1 L1.length (ah ++ [Value.slice LA ln lc]) (fun g=>a1.ownBlock=some g\/w14.heap.size<=g)).V (aq,aK) w15:=hF 15;have aB:=hd ax.1
       have es:Hd (Ed w15 B 117 (.slice (some g8) (L1.length+1:Nat) c8) ((L1 ++ [sb]).map ptV)):=hd (by
        have:=ax.2.1;unfold Ed;rw[List.length_map,jG,List.map_append];exact this)
       have cN:Hd (Ed w15 B 124 (.slice (some aq) (L1.length+1:Nat) aK) (ah ++ [Value.slice LA ln lc])):=hd (by
        have:=cM.1;unfold Ed;rw[jG,aQ.o];exact this)
       have du:Hd ((Value.slice sA L1.length sc).ownBlock=some g8\/w14.heap.size<=g8):=hd ax.2.2;have bK:Hd (a1.ownBlock=some aq\/w14.heap.size<=aq):=hd cM.2;have bL:Hd (Ext (cb :: ((Value.slice sA L1.length sc).ownBlock.toList ++ a1.ownBlock.toList)) w14 w15):=hd hJ.all;clear hF hJ ax cM hr;have qc:=aB.o.cell;have qf:=aB.o.frozen;have am:=aB.o.lt;dsimp only[Bo];have cO:=hd (aB.o.set_' 4 (.slice (some aq) (L1.length+1:Nat) aK) #[b0,b1,b2,.slice (some g8) (L1.length+1:Nat) c8,.slice (some aq) (L1.length+1:Nat) aK] rfl);have aC:=hd (jL (b:=cb) (i:=4) (u:=Value.slice (some aq) (L1.length+1:Nat) aK) (.inl (by simp)) (jF [cb] w15));go_wp2_with fail
       go_meet
       generalize World.setCell _ _ _=w16 at *;have et:=bL.o.size;have eu:=aC.o.size;have ad:Hd (Ext (TS cb (.slice sA L1.length sc) a1) w14 w16):=hd (bL.o.trans (aC.o.mono fun x hx=>.inl (by rw[jA.1 hx];simp)));have ch:Hd (∀x∈TS cb (.slice sA L1.length sc) a1,x∈T9):=hd fun x hx=>by rw[<-bC.o];exact jI _ (jN.2 (.inr hx))
       have bd:Hd (∀x∈TS cb (.slice (some g8) (L1.length+1:Nat) c8) (.slice (some aq) (L1.length+1:Nat) aK),x∈TS cb (.slice sA L1.length sc) a1\/w14.heap.size<=x):=hd fun x hx=>by
        rcases jE.1 hx with h1|h1
        ·left;rw[h1];exact jO ..
        ·rcases jN.1 h1 with h1|h1
         ·have h2:=jC.1 h1;cases h2
          exact du.o.imp (fun h=>jI _ (jN.2 (.inl (jC.2 h)))) id
         ·have h2:=jC.1 h1;cases h2
          exact bK.o.imp (fun h=>jI _ (jN.2 (.inr (jC.2 h)))) id
       have cP:Hd (∀x∈sb :: (v.ownBlock.toList ++ X ++ TS cb (.slice (some g8) (L1.length+1:Nat) c8) (.slice (some aq) (L1.length+1:Nat) aK)),x∈T9\/w14.heap.size<=x):=hd fun x hx=>by
        rw[<-bC.o];rcases jE.1 hx with h1|h1
        ·left;rw[h1];exact jO ..
        ·rcases jN.1 h1 with h1|h1
         ·left;exact jI _ (jN.2 (.inl h1))
         ·exact(bd.o x h1).imp (fun h=>jI _ (jN.2 (.inr h))) id
       have dv:=b6.o.lt;have ev:sb≠cb:=fun h=>ac.o.sb2 (h ▸ jO ..)
       have dw:sb∉TS cb (.slice sA L1.length sc) a1:=ac.o.sb2
       have aT:∀b o,LA=some ⟨b,o,none⟩->b<w14.heap.size:=fun b o hA=>by
        have:=c6.o b o hA;have:=bc.o.size;have:=ae.o.size;omega
       have cQ:Lw wq w16 cb B b0 b1 b2 (.slice sA L1.length sc) a1 (v.ownBlock.toList ++ X) sb (.slice (some g8) (L1.length+1:Nat) c8) (.slice (some aq) (L1.length+1:Nat) aK) (L1 ++ [sb]) (ah ++ [Value.slice LA ln lc]) (Ck b (k*21) ln 0 (.slice none 0 0) (.slice none 0 0) L1.length (.slice (some g9) (xs ++ [(k:Int)]).length c9) h.at_.base (Bq names h.at_.ts) (ptV vb) L1.length (0:Nat)) (some g9) (xs ++ [(k:Int)]):=by
        refine⟨ac.o.ext.trans ad.o,⟨cO.o,Df es.o aC.o fun q hq hm=>?_,Df cN.o aC.o fun q hq hm=>?_⟩,fun x hx=>?_,b6.o.ext ad.o dw,ac.o.sb1,fun hm=>?_,ac.o.pa.step ad.o (fun x hx=>.inl ?_) ad.o.size fun x hx=>?_⟩
        ·cases hq
         have h1:=jA.1 hm;rcases du.o with h2|h2
         ·exact(ao.o _ h2).2.2.1 h1
         ·have h3:g8=cb:=h1;omega
        ·cases hq
         have h1:=jA.1 hm;rcases bK.o with h2|h2
         ·exact(aR.o _ h2).2.2.1 h1
         ·have h3:aq=cb:=h1;omega
        ·refine(bd.o x hx).imp id fun h=>?_
         have:=ac.o.ext.size;omega
        ·rcases bd.o _ hm with h1|h1
         ·exact dw h1
         ·omega
        ·rw[bC.o];exact ch.o x hx
        ·rw[bC.o];exact cP.o x hx
       have ew:CEx w16 w16.heap.size (sb :: (v.ownBlock.toList ++ X ++ TS cb (.slice (some g8) (L1.length+1:Nat) c8) (.slice (some aq) (L1.length+1:Nat) aK))) names vb h.val:=by
        refine(eo.o.step ba.o (fun x hx=>.inl (by rw[jA.1 hx];exact bD.o)) ba.o.size (fun x hx=>.inl hx)).step ad.o (fun x hx=>.inl (ch.o x hx)) ad.o.size cP.o
       have bB:=an.o w14 bc.o;have ex:Ak w16 LA 1 ptC gl:=bB.1.ext ad.o fun x hx b o hA hxb=>aZ.o b o hA (hxb ▸ ch.o x hx)
       have cR:Gj w0.heap.size w16 gl names:=bB.2.1.ext ad.o (fun x hx=>(cJ.o x (ch.o x hx)).1) fun g hg hm=>by
        rcases bm.o g hm with h1|h1
        ·exact cn.o g hg h1
        ·have:=HM.o.lt g hg;omega
       have ag:=Ak5 (L:=L1) (AL:=ah) (c':=lc) br.o (by rw[cp];exact cQ) ⟨by simp,by simp[aQ.o]⟩ (fun i g h=>by rw[List.getElem?_append_left (ils h).1];exact h) (fun i g h=>by rw[List.getElem?_append_left (ils h).1];exact h) ew (by simp) (by rw[jM (by rw[aQ.o];exact jD _),aQ.o,Nat.sub_self,aj.o];rfl)
        ⟨ex,fun b o hA=>⟨by have:=aT b o hA;have:=ad.o.size;omega,fun hm=>by
         rcases cP.o b hm with h1|h1
         ·exact aZ.o b o hA h1
         ·have:=aT b o hA;omega⟩⟩ (by rw[aj.o];exact HZ.o) cR
       rw[aj.o] at ag;exact ag
    case rest=>
     obtain⟨aL,aM,L2,bT,eT,eU,ck,cl,eV,A2,c2,rfl,a6,bo,bU,bV,eW,eX,d1,d2,d3,eY⟩:=hcut;rename World=>wm
     clear aY aX;have cS:=hd (Af0 bp.o H8.o);have ey:Hd (1+Bk bs<=Bk l):=hd (by have:=Af1 bY.o;simpa[Hm] using this);have cT:Hd (Ext [] w0 wm):=hd (Ea bh.o a6.o.ext fun x hx=>by have:=(bj.o x hx).1;omega);have ez:=hd (a6.o.cd.ts hBc)
     have HQ:Hd (∀W,Ext [] wm W->W.cell? ⟨sb,0,none⟩=some (.pointer (some ⟨b,k*21,none⟩))/\W.cell? ⟨sb,6,none⟩=some (.slice ck (xs.length+1) cl)/\sb<W.heap.size/\W.cell? ⟨b,k*21+7,none⟩=some (.slice h.A bs.length h.cap)/\b<W.heap.size):=hd fun W hW=>by
      have h1:=a6.o.blk.ext hW (jH);have h2:W.cell? ⟨b,k*21+7,none⟩=some (.slice h.A bs.length h.cap):=(cT.o.trans hW).held (bq.o 7 _ rfl) (jH);exact⟨h1.cell 0,by rw[show xs.length+1=(xs ++ [(k:Int)]).length by simp];exact h1.cell 6,h1.lt,h2,jB W _ h2⟩
     have ff:=a6.o.ext.size;have eA:=a6.o.blk.lt
     have aD:Hd (∀y∈sb :: (v.ownBlock.toList ++ X),w0.heap.size<=y/\y<wm.heap.size):=hd fun y hy=>by
      rcases jE.1 hy with rfl|hy
      ·exact⟨by omega,eA⟩
      ·refine⟨?_,by have:=bi.o y hy;omega⟩
       rcases jN.1 hy with hy|hy
       ·have:=(Bt HO.o (jC.1 hy)).1;have:=bX.o.size;omega
       ·exact(HX.o _ hy).1
     have eB:Hd (∀x∈TS cb aL aM,x∈TS cb sv av\/w.heap.size<=x):=hd fun x hx=>by
      rcases a6.o.ts x hx with h1|h1
      ·exact bm.o x h1
      ·exact .inr (by omega)
     have bM:Hd (∀W,Ext [] wm W->Calls prog 147 #[.pointer (some cb),.slice h.A bs.length h.cap,.slice A2 (Co gl h sb).length c2,.slice ck (xs.length+1) cl] W (Afv bs (Aw names h) L2.length cb B b0 b1 b2 aL aM L2 bT (xs ++ [(k:Int)]) (Co gl h sb) (sb :: (v.ownBlock.toList ++ X)) W)):=hd fun W hW=>by
      rw[show xs.length+1=(xs ++ [(k:Int)]).length by simp];refine dR.o cb h.cap h.A A2 (Co gl h sb).length c2 (Co gl h sb) ck (xs ++ [(k:Int)]).length cl (xs ++ [(k:Int)]) (Aw names h) nb L2.length cb B b0 b1 b2 aL aM L2 bT (sb :: (v.ownBlock.toList ++ X)) w0 W ay.o.all.2.2.2.2.2.2.1 ay.o.all.2.2.2.2.2.2.2 cS.o.1 (cT.o.trans hW) hB0 hBc (d1.o.keep hW) (eY.o.ext hW (by simp) (by simp)) rfl d2.o cS.o.2.1 (a6.o.pa.1.keep hW) rfl (fun h=>by simp at h) ?_ (a6.o.cd.keep hW (by simp)) rfl (bo.o.2.trans bo.o.1.symm) ?_ (fun y hy=>⟨(aD.o y hy).1,nl (aD.o y hy).2 hW.size⟩) (fun b o hA=>?_) (fun g hg hm=>?_) (fun b o hA hm=>?_)
      ·have:=ey.o;rw[jG,aN.o];simp only[jS,St.body] at *;omega
      ·have h1:=bo.o.1;have h2:=ak.o.1;have h3:Be (.mk h bs)=(if h.k=3 then 1 else 0)+Ab bs:=by simp[Be]
       simp only[St.body];omega
      ·have h1:=d3.o b o hA
       exact⟨fun hm=>h1 (by
        rcases jE.1 hm with h2|h2
        ·rw[h2];exact jO ..
        ·exact jI _ (jN.2 (.inl h2))),fun hm=>h1 (jI _ (jN.2 (.inr hm)))⟩
      ·have h1:g∈gl\/g=sb:=by
        unfold Co at hg;split at hg
        ·rcases jN.1 hg with h1|h1
         ·exact .inl h1
         ·exact .inr (jA.1 h1)
        ·exact .inl hg
       rcases h1 with h1|h1
       ·rcases eB.o g hm with h2|h2
        ·exact cn.o g h1 h2
        ·have:=HM.o.lt g h1;omega
       ·exact a6.o.sb2 (h1 ▸ hm)
      ·exact(a6.o.pa.2 b o hA).2 (jI _ (jN.2 (.inr hm)))
     go_upto_region 20 with fail
     refine rgA 15 14 (TS cb aL aM) [(14,Aas wm.heap.size bs (Aw names h) L2.length cb B b0 b1 b2 aL aM L2 bT (xs ++ [(k:Int)]) (Co gl h sb) (sb :: (v.ownBlock.toList ++ X)))] rfl (by simp[Bi]) (fun oi h=>by cases h;rfl) ?_ ?_
     ·intro i s j hk hj x w1 w2 hR hV;have hm:=Fx hk;rw[jA] at hm;cases hm
      exact Nh.keep hV (hR.pre hj)
     simp only[TK]
     repeat(refine dEU (fun wr nr hg hJ=>by(clear hg);clear hJ;exact CL) ?_;simp only[PT])
     refine dEU (fun wr nr hg hJ=>by(have hA:=hJ.pre (hg.on 14 8 (by kernel_rfl) (hg.on 8 7 (by kernel_rfl) (hg.on 7 6 (by kernel_rfl) (hg.later 6 (by kernel_rfl)))));obtain⟨q0,q6,dJ,q7,a8⟩:=HQ.o wr hA;clear hA hg);clear hJ;exact CL) ?_
     simp only[PT]
     repeat(refine dEU (fun wr nr hg hJ=>by(clear hg);clear hJ;exact CL) ?_;simp only[PT])
     refine dEU (fun wr nr hg hJ=>by(have hA:=hJ.pre (hg.later 14 (by kernel_rfl));obtain⟨q0,q6,dJ,q7,a8⟩:=HQ.o wr hA;clear hA hg);clear hJ;exact CL) ?_
     simp only[PT]
     repeat(refine dEU (fun wr nr hg hJ=>by(clear hg);clear hJ;exact CL) ?_;simp only[PT])
     refine dEU (fun wr nr hg hJ=>by(have hA:=hJ.pre (hg.later 14 (by kernel_rfl));obtain⟨q0,q6,dJ,q7,a8⟩:=HQ.o wr hA;clear hA hg);clear hJ;exact CL) ?_
     simp only[PT];refine Fw (Aas wm.heap.size bs (Aw names h) L2.length cb B b0 b1 b2 aL aM L2 bT (xs ++ [(k:Int)]) (Co gl h sb) (sb :: (v.ownBlock.toList ++ X))) rfl rfl ?_ ?_
     ·refine EC fun wr r hg hJ hf=>?_
      have hW:=hJ.pre hg.mine;refine(bM.o wr hW).mono ?_
      rintro e w' he;obtain⟨x,h1,h2,h3⟩:=Nh.of he hW.size;exact⟨x,h1,h2,hJ.app h3,by unfold RA1;rw[ijp rfl];exact h3⟩
     intro (x:CV);simp only[PT];refine Ci (fun w20 r hr hJ hF=>?_)
     have hx:Nh wm.heap.size bs (Aw names h) L2.length cb B b0 b1 b2 aL aM L2 bT (xs ++ [(k:Int)]) (Co gl h sb) (sb :: (v.ownBlock.toList ++ X)) x w20:=hF 14;have a7:=hd hx;have al:Hd (Ext (TS cb aL aM) wm w20):=hd hJ.all;clear hF hJ hx hr;dsimp only[Aas];have bN:bs.length<=1000000:=ay.o.all.2.2.2.2.2.2.1.1
     have bk:x.L.length<=100000:=by
      have h0:=a7.o.len.1;have h1:=bo.o.1;have h2:=ak.o.1;have h3:Be (.mk h bs)=(if h.k=3 then 1 else 0)+Ab bs:=by simp[Be]
      omega
     obtain⟨A3,c3,bW,-,-⟩:=Nq a7.o.cd.st (by omega);obtain⟨A4,c4,cm,-,-⟩:=Nq a7.o.row (by rw[a7.o.lenG];exact bN);rw[a7.o.lenG] at cm;have aw:=hd (a6.o.blk.ext al.o a6.o.sb2);have q4:w20.cell? ⟨sb,4,none⟩=some (.slice none 0 0):=aw.o.cell 4;have eC:w20.cell? ⟨sb,18,none⟩=some (.int .i64 0):=aw.o.cell 18;have qf:=aw.o.frozen;have a8:=aw.o.lt;have eD:w20.cell? ⟨cb,3,none⟩=some (.slice A3 x.L.length c3):=(a7.o.cd.blk.cell 3).trans (by rw[<-bW];rfl);have am:=a7.o.cd.blk.lt;rw[cm];have eE:=hd cm;clear cm bW;go_upto_region 22 with fail
     have cU:=hd ((aw.o.set_ 4 (.slice A4 bs.length c4)).set_' 18 x.L.length (Ck b (k*21) names.length (if h.k=1 then(Ar h:Int) else 0) (.slice eT (if h.k=2 then h.conds.length else 0) eU) (.slice A4 bs.length c4) (if h.k=3 then(L1.length:Int) else 0) (.slice ck (xs ++ [(k:Int)]).length cl) (if h.k=3 then h.at_.base else 0) (if h.k=3 then Bq names h.at_.ts else Ip) eV L1.length (x.L.length:Nat)) rfl);have be:Hd (Ext [sb] w20 ((w20.setCell ⟨sb,4,none⟩ (.slice A4 bs.length c4)).setCell ⟨sb,18,none⟩ x.L.length)):=hd (jL (.inl (by simp)) (jL (.inl (by simp)) (jF [sb] w20)));generalize (w20.setCell ⟨sb,4,none⟩ (.slice A4 bs.length c4)).setCell ⟨sb,18,none⟩ x.L.length=w22 at *;clear q4 eC qf a8 eD am;have eF:=al.o.size;have eG:=be.o.size
     have bO:Hd (∀y,v.ownBlock=some y->y∉TS cb aL aM):=hd fun y hy hm=>by
      rcases a6.o.ts y hm with h1|h1
      ·exact cX.o y hy h1
      ·have:=(Bt HO.o hy).2;omega
     have bf:∀y,v.ownBlock=some y->y≠sb:=fun y hy he=>by have:=(Bt HO.o hy).2;have:=a6.o.sb1;omega
     have cV:Hd (Ed w22 w.heap.size 117 v (gs.map ptV)):=hd (Df (Df (Df HO.o a6.o.ext cX.o) al.o bO.o) be.o fun y hy hm=>bf y hy (jA.1 hm));obtain⟨i0,aG,aH,aI,aJ⟩:=Qm;have cu:=hd (jK w22 117 #[ptV sb]);have eH:w.heap.size<=w22.heap.size:=by omega
     go_wp2_with (
      refine wpList_append_lies _ rfl _ _ 124 rfl w.heap.size 117 i0 _ 1 8 underlying124 aG aH aI aJ rfl (by decide) _ k (gs.map ptV) rfl ?c0 ⟨w22.heap.size,0,none⟩ 1 1 [ptV sb] rfl rfl ?c1 ?c2 (by omega) ?c3 ?c4 ?c5 _ rfl ?_
      case c0=>
       have:=Df cV.o ((jF [] w22).alloc (.cells #[ptV sb] 117)) (by simp);unfold Ed at this;rw[List.length_map,cj] at this;exact this
      case c1=>exact Kt _ _ _ (cu.o.cell 0)
      case c2=>intro u hu;rw[jA.1 hu];rfl
      case c3=>unfold maxLen;omega
      case c4=>omega
      case c5=>exact nt eH (jF [] w22 |>.alloc _).size
      intro g23 c23 w23 ho23 hg23 hi23 ha23;have bP:=hd (And.intro ho23 hg23);have aE:Hd (v.ownBlock=some g23\/w22.heap.size<=g23):=hd (hi23.imp id fun h=>by rw[h];exact((jF [] w22).alloc _).size);have eI:=hd ha23;clear ho23 hg23 hi23 ha23)
     go_roundw
     case rel=>
      have ai:Ext v.ownBlock.toList w22 w23:=((jF _ w22).alloc _).grown bP.o.2 fun q hq=>.inl (jC.2 hq)
      have aF:Ext (sb :: v.ownBlock.toList) w20 w23:=(be.o.mono fun y hy=>.inl (by rw[jA.1 hy];simp)).trans (ai.mono fun y hy=>.inl (jI _ hy));have eJ:=ai.size;have eK:=a6.o.blk.lt;have bt:=a6.o.sb1;have az:∀y∈TS cb x.sv x.av,B<=y/\y<w20.heap.size:=a7.o.cd.ts hBc
      have bQ:sb∉TS cb x.sv x.av:=fun hm=>by
       rcases a7.o.ts sb hm with h1|h1
       ·exact a6.o.sb2 h1
       ·omega
      have dx:∀y,v.ownBlock=some y->y∉TS cb x.sv x.av:=fun y hy hm=>by
       rcases a7.o.ts y hm with h1|h1
       ·exact bO.o y hy h1
       ·have:=(Bt HO.o hy).2;omega
      have ci:g23∉TS cb x.sv x.av:=fun hm=>by
       rcases aE.o with h1|h1
       ·exact dx _ h1 hm
       ·have:=(az _ hm).2;omega
      have dy:∀y∈TS cb x.sv x.av,y∈TS cb (.slice sA L1.length sc) a1\/wq.heap.size<=y:=fun y hy=>by
       rcases a7.o.ts y hy with h1|h1
       ·exact a6.o.ts y h1
       ·right;omega
      have hT':∀y∈g23 :: (X ++ TS cb x.sv x.av),y∈v.ownBlock.toList ++ X ++ TS cb x.sv x.av\/w20.heap.size<=y:=fun y hy=>by
       rcases jE.1 hy with rfl|hy
       ·rcases aE.o with h1|h1
        ·left;exact jN.2 (.inl (jN.2 (.inl (jC.2 h1))))
        ·right;omega
       ·left
        rcases jN.1 hy with h1|h1
        ·exact jN.2 (.inl (jN.2 (.inr h1)))
        ·exact jN.2 (.inr h1)
      have hsbT':sb∉g23 :: (X ++ TS cb x.sv x.av):=fun hm=>by
       rcases jE.1 hm with h1|hm
       ·rcases aE.o with h2|h2
        ·exact bf _ h2 h1.symm
        ·omega
       ·rcases jN.1 hm with h1|h1
        ·have:=bi.o sb (jN.2 (.inr h1));omega
        ·exact bQ h1
      have hT0':∀y∈g23 :: (X ++ TS cb x.sv x.av),w0.heap.size<=y:=fun y hy=>by
       rcases jE.1 hy with rfl|hy
       ·rcases aE.o with h1|h1
        ·have:=(Bt HO.o h1).1;have:=bX.o.size;omega
        ·omega
       ·rcases jN.1 hy with h1|h1
        ·exact(HX.o _ h1).1
        ·have:=(az _ h1).1;omega
      have bR:Ext [] w0 w23:=Ea (Ea cT.o al.o fun y hy=>by have:=(ez.o y hy).1;omega) aF fun y hy=>(aD.o y (by
       rcases jE.1 hy with h1|h1
       ·rw[h1];exact jO ..
       ·exact jI _ (jN.2 (.inl h1)))).1
      have eL:x.L.length=L1.length+Be (.mk h bs):=by
       have h0:=a7.o.len.1;have h1:=bo.o.1;have h3:Be (.mk h bs)=(if h.k=3 then 1 else 0)+Ab bs:=by simp[Be]
       omega
      have dz:=cU.o.ext ai (fun hm=>bf sb (jC.1 hm) rfl);rw[eL] at dz
      have cW:CSt w23 w23.heap.size (g23 :: (X ++ TS cb x.sv x.av)) x.L x.AL names (xs ++ [(k:Int)]) gl L1.length sb (.mk h bs):=
       Ail a6.o (fun j v hv=>bR.held (bq.o j v hv) (jH)) ⟨by have:=bR.size;omega,fun hm=>by have:=hT0' b hm;omega⟩ eW.o eX.o a7.o bo.o.1 cS.o.2.2 al.o aF (fun y hy=>by
        rcases jE.1 hy with h1|h1
        ·rw[h1];exact jO ..
        ·exact jI _ (jN.2 (.inl h1))) (fun y hy=>(aD.o y hy).2) eE.o bN dz hT' hsbT'
      have eM:Ry w23 cb B b0 b1 b2 x.sv x.av x.L x.AL:=a7.o.cd.keep aF fun y hy hm=>by
       rcases jE.1 hm with h1|h1
       ·exact bQ (h1 ▸ hy)
       ·exact dx y (jC.1 h1) hy
      have bS:Ext (v.ownBlock.toList ++ TS cb (.slice sA L1.length sc) a1) wq w23:=by
       refine((a6.o.ext.mono fun y hy=>.inl (jN.2 (.inr hy))).step al.o fun y hy=>?_).step aF fun y hy=>?_
       ·exact(a6.o.ts y hy).imp (fun h=>jN.2 (.inr h)) id
       ·rcases jE.1 hy with h1|h1
        ·right;omega
        ·left;exact jN.2 (.inl h1)
      have dA:Ext (v.ownBlock.toList ++ (X ++ TS cb (.slice sA L1.length sc) a1)) wq w23:=bS.mono fun y hy=>.inl (by
       rcases jN.1 hy with h1|h1
       ·exact jN.2 (.inl h1)
       ·exact jN.2 (.inr (jN.2 (.inr h1))))
      have eN:∀i g,(gs ++ [sb])[i]? = some g->(i<k/\gs[i]? = some g)\/(i=k/\g=sb):=fun i g h=>by
       rcases Nat.lt_or_ge i gs.length with h1|h1
       ·rw[List.getElem?_append_left h1] at h;exact .inl ⟨by omega,h⟩
       ·have h2:=(ils h).1;have h3:i=gs.length:=by simp at h2;omega
        rw[h3,jM (jD _),Nat.sub_self] at h;cases h
        exact .inr ⟨by omega,rfl⟩
      refine⟨k+1,.slice (some g23) (k+1) c23,x.sv,x.av,x.L,x.AL,gs ++ [sb],by go_num,rfl,by omega,by simp[cj],hd ?_,hd eM,hd ?_,hd fun i g h=>a7.o.sub i g (bU.o i g (dB.o i g h)),hd fun i g h=>a7.o.suba i g (bV.o i g (dC.o i g h)),hd fun y hy=>?_,hd ?_,hd fun y hy=>?_,hd fun i g s hg hs=>?_⟩
      ·refine HE.o.step bS fun y hy=>?_
       rcases jN.1 hy with h1|h1
       ·exact .inr (Bt HO.o (jC.1 h1)).1
       ·exact bm.o y h1
      ·rw[Hs bY.o];have h1:=ak.o.1;have h2:=a7.o.len;omega
      ·rcases dy y hy with h1|h1
       ·exact bm.o y h1
       ·right;omega
      ·have:=bP.o.1;unfold Ed;rw[List.map_append,jG,List.length_map,cj];exact this
      ·cases hy
       exact ci
      ·rcases eN i g hg with⟨h1,h2⟩|⟨h1,h2⟩
       ·refine(HG.o i g s h2 hs).step dA (fun y hy=>.inl hy) dA.size (fun y hy=>?_) (fun i g h=>a7.o.sub i g (bU.o i g h)) fun i g h=>a7.o.suba i g (bV.o i g h)
        rcases hT' y hy with h3|h3
        ·rcases jN.1 h3 with h3|h3
         ·left
          rcases jN.1 h3 with h3|h3
          ·exact jN.2 (.inl h3)
          ·exact jN.2 (.inr (jN.2 (.inl h3)))
         ·exact(dy y h3).imp (fun h=>jN.2 (.inr (jN.2 (.inr h)))) id
        ·right;omega
       ·subst h1 h2;rw[bY.o] at hs;cases hs
        have h3:=ak.o.1;rw[<-h3];exact cW
     case measure=>simp[intOf];omega
  ·
   have da:k=n:=by omega
   subst da;have cg:l.take k=l:=List.take_of_length_le (by rw[HN.o];exact jD _);go_wp2_with fail
   go_ret
   refine⟨v,bl,a1,L1,ah,gs,rfl,HE.o,ap.o,by rw[ak.o.1,cg],by rw[ak.o.2,cg],dB.o,dC.o,bm.o,HO.o,cX.o,by rw[cj,HN.o],fun i g s hg hs=>?_⟩
   have h1:=HG.o i g s hg hs;exact h1.step (jF [] wq) (by simp) (jD _) (fun y hy=>.inl (jN.2 (.inr hy))) (fun i g h=>h) fun i g h=>h
end Go.Proofs.YtfppibmloloakaaGreatDoor
