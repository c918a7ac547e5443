import Derived.Test.YtfppibmloloakaaGreatDoorK42
namespace Go.Proofs.YtfppibmloloakaaGreatDoor
open Go.RowKit Go.Proofs.Tryz
set_option linter.all false
set_option maxHeartbeats 64000000
section
structure SpA (w:World)(H base g n rb ab:Nat)(x:Int)(v:Value)(ts:List (ByteArray×Int))(wx:World):Prop where
 ext:Ext [g] w wx
 stm:Stm wx base g n
 res:Blk wx rb 38 #[(0:Int),.slice none 0 0]
 blk:Blk wx ab 38 #[x,v]
 own:wx.ownsRow H 178 2 v ts.length (ts.flatMap tmC)
 ab0:w.heap.size<=ab
 abr:ab<rb
 rbH:rb<H
 hH:H<=wx.heap.size
 g0:g<w.heap.size
 bg:base<=g
structure SpE (w:World)(H base g n M rb ab:Nat)(wx:World):Prop where
 ext:Ext [g] w wx
 stm:Stm wx base g n
 res:Blk wx rb 38 #[(0:Int),.slice none 0 0]
 all:∃(x:Int) (A:Option Addr) (c:Nat) (ts:List (ByteArray×Int)),Blk wx ab 38 #[x,.slice A ts.length c]/\Ao (fun b=>H<=b) M wx A 2 tmC ts
section
variable {w wx wy:World} {H base g n m M rb ab:Nat} {x:Int} {v:Value} {ts:List (ByteArray×Int)}
theorem SpA.draw (h:SpA w H base g n rb ab x v ts wx)(hE:Ext [g] wx wy)(hS:Stm wy base g m):SpA w H base g m rb ab x v ts wy:=by
 have h0:=h.g0;have h1:=h.ab0;have h2:=h.abr;have h3:=h.rbH;exact⟨h.ext.trans hE,hS,h.res.ext hE (by rw[jA];omega),h.blk.ext hE (by rw[jA];omega),Ah h.own hE fun q hq=>by have:=Ad h.own q hq;rw[jA];omega,h.ab0,h.abr,h.rbH,nt h.hH hE.size,h.g0,h.bg⟩
theorem SpA.less (h:SpA w H base g n rb ab x v ts wx)(hm:m<=n):SpA w H base g m rb ab x v ts wx:=⟨h.ext,h.stm.less hm,h.res,h.blk,h.own,h.ab0,h.abr,h.rbH,h.hH,h.g0,h.bg⟩
theorem SpA.setX (h:SpA w H base g n rb ab x v ts wx)(y:Int):SpA w H base g n rb ab y v ts (wx.setCell ⟨ab,0,none⟩ y):=by
 have hE:Ext [ab] wx (wx.setCell ⟨ab,0,none⟩ y):=jL (.inl (by simp)) (jF _ _);have h0:=h.g0;have h1:=h.ab0;have h2:=h.abr;have h3:=h.rbH;have h4:=h.bg
 exact⟨h.ext.step hE fun q hq=>.inr (by rw[jA.1 hq];exact h.ab0),h.stm.ext hE (by rw[jA];omega) (fun q hq=>by rw[jA.1 hq];omega),h.res.ext hE (by rw[jA];omega),h.blk.set_' 0 _ _ rfl,
  Ah h.own hE fun q hq=>by have:=Ad h.own q hq;rw[jA];omega,h.ab0,h.abr,h.rbH,nt h.hH hE.size,h.g0,h.bg⟩
theorem SpA.row (h:SpA w H base g n rb ab x v ts wx){S:List Nat}(hE:Ext S wx wy)(hS:∀q∈S,v.ownBlock=some q):Ext [g] w wy/\Stm wy base g n/\Blk wy rb 38 #[(0:Int),.slice none 0 0]/\Blk wy ab 38 #[x,v]:=by
 have h0:=h.g0;have h1:=h.ab0;have h2:=h.abr;have h3:=h.rbH;have h4:=h.bg;have hq:∀q∈S,H<=q:=fun q hq=>Ad h.own q (hS q hq)
 exact⟨h.ext.step hE fun q hqq=>.inr (by have:=hq q hqq;omega),h.stm.ext hE (fun hm=>by have:=hq _ hm;omega) (fun q hqq=>by have:=hq q hqq;omega),h.res.ext hE (fun hm=>by have:=hq _ hm;omega),h.blk.ext hE (fun hm=>by have:=hq _ hm;omega)⟩
theorem SpA.setV (h:SpA w H base g n rb ab x v ts wx){S:List Nat}(hE:Ext S wx wy)(hS:∀q∈S,v.ownBlock=some q){u:Value}{us:List (ByteArray×Int)}(hO:wy.ownsRow H 178 2 u us.length (us.flatMap tmC)) :
  SpA w H base g n rb ab x u us (wy.setCell ⟨ab,1,none⟩ u):=by
 obtain⟨r1,r2,r3,r4⟩:=h.row hE hS;have a1:Ext [ab] wy (wy.setCell ⟨ab,1,none⟩ u):=jL (.inl (by simp)) (jF _ _);have h0:=h.g0;have h1:=h.ab0;have h2:=h.abr;have h3:=h.rbH;have h4:=h.bg
 exact⟨r1.step a1 fun q hq=>.inr (by rw[jA.1 hq];exact h.ab0),r2.ext a1 (by rw[jA];omega) (fun q hq=>by rw[jA.1 hq];omega),r3.ext a1 (by rw[jA];omega),r4.set_' 1 _ _ rfl,
  Ah hO a1 fun q hq=>by have:=Ad hO q hq;rw[jA];omega,h.ab0,h.abr,h.rbH,nt h.hH (nt hE.size a1.size),h.g0,h.bg⟩
theorem SpA.fin (h:SpA w H base g n rb ab x v ts wx)(hl:ts.length<=M):SpE w H base g n M rb ab wx:=by
 obtain⟨A,c,rfl,-,-⟩:=Bg h.own;exact⟨h.ext,h.stm,h.res,x,A,c,ts,h.blk,(Ao.own (P:=fun b=>H<=b) (N:=M) Re h.own hl (by decide) (fun q _ h1 _=>h1)).2⟩
end
theorem TmR.set1 {w:World}{b:Nat}{ts:List (ByteArray×Int)}(h:TmR w b ts){j:Nat}(hj:j<ts.length)(k:Int):∃s,TmR (w.setCell ⟨b,j*2+1,none⟩ k) b (ts.set j (s,k)):=by
 obtain⟨a6,h1,h2⟩:=h;obtain⟨e1,e2⟩:=h2 j _ (jJ hj);have a2:=(Array.getElem?_eq_some_iff.1 e2).1;refine⟨ts[j].1,_,h1.set_ (j*2+1) (.int .i64 k),fun i y hy=>?_⟩
 rw[List.getElem?_set] at hy;by_cases a1:j=i
 ·subst a1;rw[ijp rfl,ijp hj] at hy;cases hy
  simp only[Array.getElem?_setIfInBounds,Array.size_setIfInBounds];constructor
  ·rw[ijn (by omega)];exact e1
  ·rw[ijp trivial,ijp a2]
 ·rw[ijn a1] at hy;obtain⟨f1,f2⟩:=h2 i y hy;simp only[Array.getElem?_setIfInBounds,Array.size_setIfInBounds];rw[ijn (by omega),ijn (by omega)];exact⟨f1,f2⟩
theorem SpA.finT {w wx wy:World}{H base g n M rb ab q c:Nat}{x:Int}{ts ts':List (ByteArray×Int)}(h:SpA w H base g n rb ab x (.slice (some q) ts.length c) ts wx)(hE:Ext [q] wx wy)(hT:TmR wy q ts')(hl':ts'.length=ts.length)(hl:ts.length<=M):SpE w H base g n M rb ab wy:=by
 obtain⟨r1,r2,r3,r4⟩:=h.row hE (fun y hy=>by rw[jA.1 hy];rfl);exact⟨r1,r2,r3,x,some q,c,ts',by rw[hl'];exact r4,hT.seq (by omega) (Ad h.own q rfl)⟩
set_option maxRecDepth 100000 in
theorem Zx (P:Nat->Prop)(N base g n:Nat)(a:Af)(w:World)(h:Stm w base g (n+20))(ha:AfA P N w a)(hN:N<=100000) :
  Calls prog 157 #[.pointer (some g),afV a] w fun e w'=>∃a':Af,e=.returned (afV a')/\AfA (fun b=>w.heap.size<=b) (2*N+1) w' a'/\Ext [g] w w'/\Stm w' base g n:=by
 have HS:=hd h;have hg:=h.lt;have af:=h.base;have aS:a.ts.length<=N:=ha.1;have HA:=hd ha;clear h ha;obtain⟨x,A,c,ts⟩:=a;unfold AfA at HA;dsimp only at HA aS;generalize hl:ts.length=L at *;have HL:=hd hl;unfold afV;dsimp only;rw[hl];clear hl;go_enter func157,ntmps157
 go_upto_region 1 with fail
 have ao:=hd (((jF [] w).alloc (.cells #[x,.slice A L c] 38)).alloc (.cells #[(0:Int),.slice none 0 0] 38));have ag:=hd ((jK w 38 #[x,.slice A L c]).alloc (.cells #[(0:Int),.slice none 0 0] 38));have ap:=hd (jK (w.alloc (.cells #[x,.slice A L c] 38)) 38 #[(0:Int),.slice none 0 0]);have aB:=hd ((HS.o.alloc (.cells #[x,.slice A L c] 38)).alloc (.cells #[(0:Int),.slice none 0 0] 38));rw[Ag] at ap;have aC:((w.alloc (.cells #[x,.slice A L c] 38)).alloc (.cells #[(0:Int),.slice none 0 0] 38)).heap.size=w.heap.size+2:=by rw[Ag,Ag]
 generalize World.alloc (World.alloc w _) _=w1 at *;have aT:g<w1.heap.size:=by omega
 generalize aR:w.heap.size=ab at *;have qb:=ag.o.cell;have a7:=ag.o.frozen;have a6:=ag.o.lt;go_wp2_with fail
 refine(Ah1 P N A L c ts w1 (Ao.ext HA.o ao.o (by simp)) HL.o (by omega)).mono ?_
 rintro e w2 ⟨v,rfl,ho,hE⟩;rw[aC,<-HL.o] at ho;obtain⟨v1,v2,rfl,-,-⟩:=Bg ho;have aq:=hd ho;have aD:=hd (ao.o.trans hE);have ah:=hd (ag.o.ext hE (by simp));have aE:=hd (ap.o.ext hE (by simp));have aF:=hd (aB.o.ext hE (by simp) (by simp));have aG:ab+2<=w2.heap.size:=by have:=hE.size;omega
 clear qb a7 a6 ao ag ap aB hE ho aC aT;have qb:=ah.o.cell;have a7:=ah.o.frozen;have a6:=ah.o.lt;go_upto_block 0 with fail
 have au:Hd (SpA w (ab+2) base g (n+20) (ab+1) ab x (.slice v1 ts.length v2) ts (w2.setCell ⟨ab,1,none⟩ (.slice v1 ts.length v2))):=hd (by
  have ai:Ext [ab] w2 (w2.setCell ⟨ab,1,none⟩ (.slice v1 ts.length v2)):=jL (.inl (by simp)) (jF _ _)
  exact⟨aD.o.nil.step ai fun q hq=>.inr (by rw[jA.1 hq,aR];exact jD _),aF.o.ext ai (by rw[jA];omega) (fun q hq=>by rw[jA.1 hq];omega),aE.o.ext ai (by rw[jA];omega),ah.o.set_' 1 _ _ rfl,
   Ah aq.o ai fun q hq=>by have:=Ad aq.o q hq;rw[jA];omega,by rw[aR];exact jD _,by omega,by omega,nt aG ai.size,by omega,af⟩)
 clear qb a7 a6 aq aD ah aE aF aG;generalize World.setCell w2 _ _=w3 at *;refine(Cb base g (n+19) 6 w3 (au.o.stm.less (by omega)) (by omega)).mono ?_
 rintro e w4 ⟨r,rfl,hr,hE,hS⟩;have a1:=hd (au.o.draw hE hS);have aU:r=0\/r=1\/r=2\/r=3\/r=4\/r=5:=by omega
 clear hE hS hr au;go_upto_block 0 with fail
 go_cut [] (fun wx=>Hd (SpE w (ab+2) base g n (2*N+1) (ab+1) ab wx))
 case first=>
  have qb:=a1.o.blk.cell;have a7:=a1.o.blk.frozen;have a6:=a1.o.blk.lt;have b2:g<w4.heap.size:=a1.o.stm.lt;have b3:g<ab:=by have:=a1.o.g0;omega
  obtain⟨i0,ax,aI,aJ,aK⟩:=Abv;rcases aU with rfl|rfl|rfl|rfl|rfl|rfl
  ·
   have HN:=hd (jK w4 3 (Cj [100001,-100001,100000,-1,40]));have ad:Ext [] w4 (w4.alloc (.cells (Cj [100001,-100001,100000,-1,40]) 3)):=(jF _ _).alloc _;have a2:=hd (a1.o.draw ad.nil (a1.o.stm.ext ad (by simp) (by simp)));clear ad;simp only[Cj,List.map_cons,List.map_nil] at HN a2;go_wp2_with fail
   refine(Cc base g (n+10) w4.heap.size 5 3 [100001,-100001,100000,-1,40] _ (a2.o.stm.less (by omega)) HN.o (by omega) (by decide)).mono ?_
   rintro e w6 ⟨y,rfl,-,hE,hS⟩;have ae:=hd (a2.o.draw hE hS);clear qb a7 a6 hE hS HN a2 a1;have qb:=ae.o.blk.cell;have a7:=ae.o.blk.frozen;have a6:=ae.o.blk.lt;go_wp2_with fail
   go_meet
   exact hd (((ae.o.setX y).less (by omega)).fin (by rw[HL.o];omega))
  ·
   have HN:=hd (jK w4 178 #[.string ⟨#[122,122]⟩,(1:Int)]);have ad:Ext [] w4 (w4.alloc (.cells #[.string ⟨#[122,122]⟩,(1:Int)] 178)):=(jF _ _).alloc _;have a2:=hd (a1.o.draw ad.nil (a1.o.stm.ext ad (by simp) (by simp)));have aw:=a2.o.hH;clear ad
   go_wp2_with (
    refine wpList_append_lies _ rfl _ _ 36 rfl (ab+2) 178 i0 _ 2 24 underlying36 ax aI aJ aK rfl (by decide) (.slice v1 ts.length v2) ts.length (ts.flatMap tmC) rfl a2.o.own ⟨w4.heap.size,0,none⟩ 1 1 (tmC (⟨#[122,122]⟩,1)) rfl rfl ?c1 (Xl _) (by omega) ?c3 ?c4 aw _ rfl ?_
    case c1=>intro j u hj;rw[Addr.add_mk,Nat.zero_add,HN.o.cell,<-Array.getElem?_toList];exact hj
    case c3=>unfold maxLen;have:=HL.o;omega
    case c4=>have:=HL.o;omega
    intro g8 c8 w8 ho8 hg8 hi8 ha8;have aj:Hd (Ext (Value.slice v1 ts.length v2).ownBlock.toList (w4.alloc (.cells #[.string ⟨#[122,122]⟩,(1:Int)] 178)) w8):=hd ((jF _ _).grown hg8 fun q hq=>.inl (jC.2 hq));have aa:=hd (a2.o.setV aj.o (fun q hq=>jC.1 hq) (u:=.slice (some g8) (ts.length+1) c8) (us:=ts ++ [(⟨#[122,122]⟩,1)]) (by rw[jG,List.flatMap_append];exact ho8));have a8:=(a2.o.row aj.o (fun q hq=>jC.1 hq)).2.2.2;have qb:=a8.cell;have a7:=a8.frozen;have a6:=a8.lt;clear ho8 hg8 hi8 ha8 a8)
   go_meet
   exact hd ((aa.o.less (by omega)).fin (by rw[jG,jS,HL.o];omega))
  ·
   by_cases hz:ts.length=0
   ·have ak:=List.length_eq_zero_iff.1 hz;subst ak;have aa:=hd (a1.o.setV (jF [] w4) (by simp) a1.o.own);rcases a1.o.own.2 with⟨h,-⟩|⟨g',cap,bb,h,-⟩
    ·cases h
     rw[List.length_nil] at aa qb;go_wp2_with fail
     go_meet
     exact hd ((aa.o.less (by omega)).fin (by rw[List.length_nil];omega))
    ·cases h
     have hr:∀ty,(Builtin.append_ #[36,36] ty #[.slice (some g') 0 v2,.slice (some g') 0 v2]).run prog w4=.ok (.slice (some g') 0 v2) w4:=fun ty=>
      run_append_room_cells (P:=prog) _ 36 ty 178 i0 underlying36 ax _ 0 0 _ _ 0 _ [] (by simp) (by simp) (by simp) (by omega) (by simp) (by simp)
     have aV:=hd hr;clear hr;rw[List.length_nil] at aa qb;go_wp2_with (at_builtin;refine Lib.wpList_append_run _ rfl _ _ _ _ rfl _ _ rfl rfl _ _ (aV.o _) ?_)
     go_meet
     exact hd ((aa.o.less (by omega)).fin (by rw[List.length_nil];omega))
   ·obtain⟨aL,aM,hv,-,ac⟩:=Bg a1.o.own;cases hv
    obtain⟨q,rfl,-,-⟩:=ac (by omega);have aw:=a1.o.hH;clear ac
    go_wp2_with (
     refine wpList_append_lies _ rfl _ _ 36 rfl (ab+2) 178 i0 _ 2 24 underlying36 ax aI aJ aK rfl (by decide) (.slice (some q) ts.length v2) ts.length (ts.flatMap tmC) rfl a1.o.own ⟨q,0,none⟩ ts.length v2 (ts.flatMap tmC) rfl (Ej Re ts) ?c1 ?c2 (by omega) ?c3 ?c4 aw _ rfl ?_
     case c1=>intro j u hj;rw[Addr.add_mk,Nat.zero_add];exact Dg a1.o.own rfl hj
     case c2=>intro u hu;obtain⟨y,-,hy⟩:=List.mem_flatMap.1 hu;exact Xl y u hy
     case c3=>unfold maxLen;have:=HL.o;omega
     case c4=>have:=HL.o;omega
     intro g8 c8 w8 ho8 hg8 hi8 ha8;have aj:Hd (Ext [q] w4 w8):=hd ((jF _ _).grown hg8 fun y hy=>.inl (by cases hy;simp));have aa:=hd (a1.o.setV aj.o (fun y hy=>by rw[jA.1 hy];rfl) (u:=.slice (some g8) (ts.length+ts.length) c8) (us:=ts ++ ts) (by rw[jG,List.flatMap_append];exact ho8));have a8:=(a1.o.row aj.o (fun y hy=>by rw[jA.1 hy];rfl)).2.2.2;have qb:=a8.cell;have a7:=a8.frozen;have a6:=a8.lt;clear ho8 hg8 hi8 ha8 a8)
    go_meet
    exact hd ((aa.o.less (by omega)).fin (by rw[jG,HL.o];omega))
  ·
   by_cases hz:ts.length=0
   ·have ak:=List.length_eq_zero_iff.1 hz;subst ak;go_wp2_with fail
    refine(Xm v1 v2 w4).mono ?_
    rintro e w5 ⟨rfl,rfl⟩;go_wp2_with fail
    go_meet
    exact hd ((a1.o.less (by omega)).fin (by rw[List.length_nil];omega))
   ·obtain⟨aL,aM,hv,-,ac⟩:=Bg a1.o.own;cases hv
    obtain⟨q,rfl,-,-⟩:=ac (by omega);have HR:=hd (Zw ts.length v2 q ts w4 rfl (by omega) (by rw[HL.o];omega) (TmR.own a1.o.own));clear ac;go_wp2_with fail
    refine HR.o.mono ?_
    rintro e w5 ⟨rfl,ba,aQ,hT,hE⟩;have HF:=hd ((a1.o.less (m:=n) (by omega)).finT (M:=2*N+1) hE hT aQ (by rw[HL.o];omega));clear aQ hT hE HR;go_wp2_with fail
    go_meet
    exact HF
  all_goals
   by_cases hz:ts.length=0
   ·have b4:decide ((0:Int)<0)=false:=by decide
    have ak:=List.length_eq_zero_iff.1 hz;subst ak;go_upto_region 5 with fail
    refine rgC 6 1 base g (n+10) [(3,Ds 3 g),(4,Dr)] (Am.cons Ds.stays (Am.cons Dr.stays Am.nil)) (a1.o.stm.less (by omega)) ?_
    simp only[TK]
    repeat(refine dE (fun wr nr hJ=>by(have hB:=(a1.o.draw hJ.1 hJ.2).blk;have qb:=hB.cell;have a6:=hB.lt;clear hB);clear hJ;exact CL) ?_;simp only[PT])
    refine Ew (Ds 3 g) rfl rfl ?_ ?_
    ·intro wr hE hf;refine⟨wr.heap.size,.cells (Cj [1,5,-1]) 3,?_,[1,5,-1],rfl,jK _ _ _,by have:=hE.size;have:=a1.o.stm.lt;omega⟩
     go_simp;try first|rfl|exact⟨rfl,rfl⟩
    intro (b1:Nat);simp only[PT];dsimp only[Ds];refine Bz Dr rfl rfl ?_ ?_
    ·refine EC fun wr m hE hS hm hf=>?_
     obtain⟨xs,hx,hB,af⟩:=(Cw hf 3 (by kernel_rfl):(Ds 3 g).V b1 wr);have hp:=Cc base g m b1 3 3 xs wr hS hB af (by omega);rw[hx] at hp;refine hp.mono ?_
     rintro e w' ⟨r,rfl,_,az,aA⟩;exact⟨r,rfl,trivial,az,aA⟩
    intro (y:Int);simp only[PT];dsimp only[Dr]
    repeat(refine dE (fun wr nr hJ=>by clear hJ;exact CL) ?_;simp only[PT])
    refine Aj (fun w5 hJ hF=>?_)
    have a2:=hd ((a1.o.draw hJ.1 hJ.2).less (m:=n) (by omega));clear hJ hF a1 qb a7 a6;have qb:=a2.o.blk.cell;have a7:=a2.o.blk.frozen;have a6:=a2.o.blk.lt;generalize wrap64 (x+y)=xy at *;have ae:=hd (a2.o.setX xy);go_wp2_with fail
    go_meet
    exact hd (ae.o.fin (by rw[List.length_nil];omega))
   ·have aW:0<ts.length:=by omega
    obtain⟨aL,aM,hv,-,ac⟩:=Bg a1.o.own;cases hv
    obtain⟨q,rfl,-,b8⟩:=ac (by omega);clear ac;have HT:=hd (TmR.own a1.o.own);have aH:=hd aW;have aX:(0:Int)<ts.length:=by omega
    have b5:decide ((0:Int)<ts.length)=true:=decide_eq_true aX;go_upto_region 4 with fail
    refine rgC 5 1 base g (n+10) [(3,Ds 4 g),(4,Dr)] (Am.cons Ds.stays (Am.cons Dr.stays Am.nil)) (a1.o.stm.less (by omega)) ?_
    simp only[TK]
    repeat(refine dE (fun wr nr hJ=>by(have hB:=(a1.o.draw hJ.1 hJ.2).blk;have qb:=hB.cell;have a6:=hB.lt;clear hB);clear hJ;exact CL) ?_;simp only[PT])
    refine Ew (Ds 4 g) rfl rfl ?_ ?_
    ·intro wr hE hf;refine⟨wr.heap.size,.cells (Cj [0,100001,3,-2]) 3,?_,[0,100001,3,-2],rfl,jK _ _ _,by have:=hE.size;have:=a1.o.stm.lt;omega⟩
     go_simp;try first|rfl|exact⟨rfl,rfl⟩
    intro (b1:Nat);simp only[PT];dsimp only[Ds];refine Bz Dr rfl rfl ?_ ?_
    ·refine EC fun wr m hE hS hm hf=>?_
     obtain⟨xs,hx,hB,af⟩:=(Cw hf 3 (by kernel_rfl):(Ds 4 g).V b1 wr);have hp:=Cc base g m b1 4 3 xs wr hS hB af (by omega);rw[hx] at hp;refine hp.mono ?_
     rintro e w' ⟨r,rfl,_,az,aA⟩;exact⟨r,rfl,trivial,az,aA⟩
    intro (y:Int);simp only[PT];dsimp only[Dr];refine Aj (fun w5 hJ hF=>?_)
    have a2:=hd ((a1.o.draw hJ.1 hJ.2).less (m:=n) (by omega));have am:=hd (HT.o.ext hJ.1 (by have:=Ad a1.o.own q rfl;rw[jA];omega));clear hJ hF a1 HT qb a7 a6;obtain⟨s9,k9,-,c5,c6⟩:=am.o.at (i:=0) aH.o;have c7:=am.o.fz 1;have c8:=am.o.lt;simp only[Nat.zero_mul,Nat.zero_add] at c5 c6;obtain⟨s7,ay⟩:=am.o.set1 (j:=0) aH.o y;simp only[Nat.zero_mul,Nat.zero_add] at ay;have HF:=hd (a2.o.finT (M:=2*N+1) (jL (b:=q) (i:=1) (u:=.int .i64 y) (.inl (by simp)) (jF [q] w5)) ay (by rw[List.length_set]) (by rw[HL.o];omega));clear ay;go_wp2_with fail
    go_meet
    exact HF
 case rest=>
  obtain⟨aN,aO,al,y,A9,c9,us,an,aP⟩:=hcut.o;have qb:=an.cell;have a7:=an.frozen;have a6:=an.lt;have qr:=al.cell;have b6:=al.frozen;have b7:=al.lt;have HR:=hd ((al.set_' 0 y #[y,.slice none 0 0] rfl).set_' 1 (.slice A9 us.length c9) #[y,.slice A9 us.length c9] rfl);have HE:=hd ((jL (b:=ab+1) (i:=0) (u:=.int .i64 y) (.inl (by simp)) (jF [ab+1] wc)).trans (jL (b:=ab+1) (i:=1) (u:=.slice A9 us.length c9) (.inl (by simp)) (jF [ab+1] _)));have aY:=hd aN;have aZ:=hd aO;have b0:=hd aP;clear aN aO aP an al a1 hcut;go_wp2_with fail
  refine bodyPost_ret (results_cell_row rfl _ _ (ab+1) 38 _ (0,0) _ rfl HR.o underlying38 rfl (by kernel_rfl)) rfl ⟨⟨y,A9,c9,us⟩,rfl,?_,?_,?_⟩
  ·exact Ao.mono (Ao.ext b0.o HE.o fun q hq=>by rw[jA.1 hq];omega) (fun b _ hb=>by omega) (jD _)
  ·exact aY.o.step HE.o fun q hq=>.inr (by rw[jA.1 hq];omega)
  ·exact aZ.o.ext HE.o (by rw[jA];omega) (fun q hq=>by rw[jA.1 hq];omega)
end
section
structure SpX (w:World)(Q:Nat->Prop)(M base g n rb eb:Nat)(h:EH)(ks:List Ex)(wx:World):Prop where
 ext:Ext [g] w wx
 stm:Stm wx base g n
 res:Blk wx rb 41 zEx
 blk:Blk wx eb 41 (An (.mk h ks))
 kid:ExA (fun b=>Q b/\b≠eb/\b≠rb/\b≠g) M wx (.mk h ks)
 eb0:w.heap.size<=eb
 ebr:eb<rb
 g0:g<w.heap.size
 bg:base<=g
section
variable {w wx wy:World} {Q:Nat->Prop} {M base g n m rb eb:Nat} {h:EH} {ks:List Ex}
theorem SpX.draw (s:SpX w Q M base g n rb eb h ks wx)(hE:Ext [g] wx wy)(hS:Stm wy base g m):SpX w Q M base g m rb eb h ks wy:=by
 have h0:=s.g0;have h1:=s.eb0;have h2:=s.ebr;exact⟨s.ext.trans hE,hS,s.res.ext hE (by rw[jA];omega),s.blk.ext hE (by rw[jA];omega),ExA.ext hE (fun x hx hh=>hh.2.2.2 (jA.1 hx)) s.kid,s.eb0,s.ebr,s.g0,s.bg⟩
theorem SpX.less (s:SpX w Q M base g n rb eb h ks wx)(hm:m<=n):SpX w Q M base g m rb eb h ks wx:=⟨s.ext,s.stm.less hm,s.res,s.blk,s.kid,s.eb0,s.ebr,s.g0,s.bg⟩
theorem SpX.setH (s:SpX w Q M base g n rb eb h ks wx)(i:Nat)(y:Value)(h':EH)(ks':List Ex)(e:(An (.mk h ks)).setIfInBounds i y=An (.mk h' ks'))
  (hk:ExA (fun b=>Q b/\b≠eb/\b≠rb/\b≠g) M wx (.mk h' ks')):SpX w Q M base g n rb eb h' ks' (wx.setCell ⟨eb,i,none⟩ y):=by
 have hE:Ext [eb] wx (wx.setCell ⟨eb,i,none⟩ y):=jL (.inl (by simp)) (jF _ _);have h0:=s.g0;have h1:=s.eb0;have h2:=s.ebr;have h3:=s.bg
 exact⟨s.ext.step hE fun q hq=>.inr (by rw[jA.1 hq];exact s.eb0),s.stm.ext hE (by rw[jA];omega) (fun q hq=>by rw[jA.1 hq];omega),s.res.ext hE (by rw[jA];omega),s.blk.set_' i y _ e,
  ExA.ext hE (fun x hx hh=>hh.2.1 (jA.1 hx)) hk,s.eb0,s.ebr,s.g0,s.bg⟩
theorem SpX.plain (s:SpX w Q M base g n rb eb h ks wx)(i:Nat)(y:Value)(h':EH)(e:(An (.mk h ks)).setIfInBounds i y=An (.mk h' ks))(e1:h'.at_=h.at_)(e2:h'.A=h.A):SpX w Q M base g n rb eb h' ks (wx.setCell ⟨eb,i,none⟩ y):=by
 obtain⟨k1,k2,k3⟩:=s.kid.all;exact s.setH i y h' ks e (.mk _ _ (by rw[e1];exact k1) (by rw[e2];exact k2) k3)
end
end
section
theorem Ajt {α:Type}{f:α->List Value}{s:Nat}(hs:∀x,(f x).length=s)(h0:0<s){w:World}{B e n c g:Nat}{l:List α}(h:w.ownsRow B e s (.slice (some g) n c) n (l.flatMap f))(hl:l.length=n){i:Nat}(hi:i<n)(x:α) :
  (w.setCells g (i*s) (f x)).ownsRow B e s (.slice (some g) n c) n ((l.set i x).flatMap f)/\∃a1,Blk w g e a1/\i*s+s<=a1.size:=by
 rcases h.2 with⟨h1,-⟩|⟨g',c',a1,hv,hb,hg,h1,h2,h3,h4⟩
 ·cases h1
 ·cases hv
  have ac:(i+1)*s<=n*s:=Nat.mul_le_mul_right s hi;have ad:n*s<=c*s:=Nat.mul_le_mul_right s h1;rw[Nat.succ_mul] at ac;have a8:i*s+s<=a1.size:=by rw[h3];omega
  have aa:((l.set i x).flatMap f).length=n*s:=by rw[Ej hs,List.length_set,hl]
  refine⟨⟨aa,.inr ⟨g,c,Gk a1 (i*s) (f x),rfl,hb,Blk.many (f x) (i*s) a1 w hg,h1,h2,by rw[Kz];exact h3,?_⟩⟩,a1,hg,a8⟩
  refine List.ext_getElem? fun j=>?_
  rw[List.getElem?_take];by_cases hj:j<n*s
  ·rw[ijp hj,Array.getElem?_toList,Mj (f x) (i*s) a1 j (by rw[hs];exact a8),hs];have hq:j / s<l.length:=by rw[hl];exact(Nat.div_lt_iff_lt_mul h0).2 hj
   have hr:j % s<s:=Nat.mod_lt _ h0;have e1:j / s*s+j % s=j:=by rw[Nat.mul_comm];exact Nat.div_add_mod j s
   have a7:(l.flatMap f)[j]? = a1[j]?:=by
    rw[<-h4,List.getElem?_take,ijp hj,Array.getElem?_toList]
   by_cases a6:i=j / s
   ·have hx:(l.set i x)[j / s]? = some x:=by rw[List.getElem?_set,ijp a6,ijp (by omega)]
    have a2:=Dk hs hx hr;rw[e1] at a2;have e2:i*s+j % s=j:=by rw[a6];exact e1
    rw[a2,ijp ⟨by omega,by omega⟩];congr 1
    omega
   ·have hx:(l.set i x)[j / s]? = some l[j / s]:=by rw[List.getElem?_set,ijn a6];exact jJ hq
    have a2:=Dk hs hx hr;have ab:=Dk hs (jJ hq) hr;rw[e1] at a2 ab;rw[a2,<-ab,a7,if_neg];rintro⟨a,b⟩;apply a6
    rcases Nat.lt_trichotomy i (j / s) with hh|hh|hh
    ·have:=Nat.mul_le_mul_right s (show i+1<=j / s from hh);rw[Nat.succ_mul] at this;omega
    ·exact hh
    ·have:=Nat.mul_le_mul_right s (show j / s+1<=i from hh);rw[Nat.succ_mul] at this;omega
  ·rw[ijn hj,List.getElem?_eq_none (by rw[aa];omega)]
theorem Ou {α:Type}{f:α->List Value}{s:Nat}(hs:∀x,(f x).length=s){w:World}{B e n c g:Nat}{l:List α}(h:w.ownsRow B e s (.slice (some g) n c) n (l.flatMap f)){i:Nat}{x:α}(hx:l[i]? = some x) :
  ∀(j:Nat) (v:Value),(f x)[j]? = some v->w.cell? ⟨g,i*s+j,none⟩=some v:=fun j v hv=>by
 refine Dg h rfl ?_
 have hj:=(ils hv).1;rw[hs] at hj;rw[Dk hs hx hj];exact hv
def Ov (xs:List Value)(o:Nat):List Value->List Value
 | []=>xs
 | v :: r=>Ov (xs.set o v) (o+1) r
theorem Vy:∀(vs a b:List Value) (o:Nat),o+vs.length<=a.length->Ov (a ++ b) o vs=Ov a o vs ++ b
 | [],_,_,_,_=>rfl
 | v :: r,a,b,o,h=>by
  rw[List.length_cons] at h;rw[Ov,Ov,List.set_append_left _ _ (by omega),Vy r _ _ _ (by rw[List.length_set];omega)]
theorem Tp:∀(vs a b:List Value) (o:Nat),Ov (a ++ b) (a.length+o) vs=a ++ Ov b o vs
 | [],_,_,_=>rfl
 | v :: r,a,b,o=>by
  rw[Ov,Ov,List.set_append_right _ _ (by omega),Nat.add_sub_cancel_left,Nat.add_assoc,Tp r]
theorem Wa {α:Type}{f:α->List Value}{s:Nat}(hs:∀x,(f x).length=s){y x:α}{k:Nat}{vs:List Value}(hk:k+vs.length<=s)(hx:f x=Ov (f y) k vs):∀(l:List α) (i:Nat),l[i]? = some y->Ov (l.flatMap f) (i*s+k) vs=(l.set i x).flatMap f
 | [],i,h=>by simp at h
 | z :: l,0,h=>by
  cases h
  rw[List.flatMap_cons,Nat.zero_mul,Nat.zero_add,Vy _ _ _ _ (by rw[hs];exact hk),<-hx];rfl
 | z :: l,i+1,h=>by
  have e:(i+1)*s+k=(f z).length+(i*s+k):=by rw[hs,Nat.succ_mul];omega
  rw[List.flatMap_cons,e,Tp,Wa hs hk hx l i h];rfl
theorem Aju {w:World}{B e s n c g:Nat}{xs:List Value}(h:w.ownsRow B e s (.slice (some g) n c) n xs)(k:Nat)(v:Value):(w.setCell ⟨g,k,none⟩ v).ownsRow B e s (.slice (some g) n c) n (xs.set k v):=by
 rcases h.2 with⟨h1,-⟩|⟨g',c',a1,hv,hb,hg,h1,h2,h3,h4⟩
 ·cases h1
 ·cases hv
  refine⟨by rw[List.length_set];exact h.1,.inr ⟨g,c,a1.setIfInBounds k v,rfl,hb,Blk.set_ hg _ _,h1,h2,by rw[Array.size_setIfInBounds];exact h3,?_⟩⟩
  rw[Array.toList_setIfInBounds,<-h4,List.take_set]
theorem Zy {B e s n c g:Nat}:∀(vs:List Value) (o:Nat) (w:World) (xs:List Value),w.ownsRow B e s (.slice (some g) n c) n xs->(w.setCells g o vs).ownsRow B e s (.slice (some g) n c) n (Ov xs o vs)
 | [],_,_,_,h=>h
 | v :: r,o,w,xs,h=>Zy r (o+1) _ _ (Aju h o v)
theorem Wb {α:Type}{f:α->List Value}{s:Nat}(hs:∀x,(f x).length=s){w:World}{B e n c g:Nat}{l:List α}(h:w.ownsRow B e s (.slice (some g) n c) n (l.flatMap f)){i:Nat}{y x:α}(hy:l[i]? = some y){k:Nat}{vs:List Value}(hk:k+vs.length<=s)(hx:f x=Ov (f y) k vs) :
  (w.setCells g (i*s+k) vs).ownsRow B e s (.slice (some g) n c) n ((l.set i x).flatMap f):=by
 rw[<-Wa hs hk hx l i hy];exact Zy _ _ _ _ h
theorem Ah6 {α:Type}{f:α->List Value}{s:Nat}(hs:∀x,(f x).length=s){w:World}{B e n c g:Nat}{l:List α}(h:w.ownsRow B e s (.slice (some g) n c) n (l.flatMap f)){i:Nat}{y x:α}(hy:l[i]? = some y){k:Nat}{v:Value}(hk:k<s)(hx:f x=(f y).set k v) :
  (w.setCell ⟨g,i*s+k,none⟩ v).ownsRow B e s (.slice (some g) n c) n ((l.set i x).flatMap f):=Wb hs h hy (vs:=[v]) (by rw[jS];omega) hx
theorem Tq (x:Ex):∀(l:List Ex) (i:Nat) (y:Ex),l[i]? = some y->Ap (l.set i x)+Al y=Ap l+Al x
 | [],i,y,h=>by simp at h
 | z :: l,0,y,h=>by cases h;simp only[List.set_cons_zero,Ap];omega
 | z :: l,i+1,y,h=>by
  have:=Tq x l i y (by simpa using h);simp only[List.set_cons_succ,Ap];omega
theorem Tr:∀(l:List Ex) (i:Nat) (y:Ex),l[i]? = some y->Al y<=Ap l
 | [],i,y,h=>by simp at h
 | z :: l,0,y,h=>by cases h;simp only[Ap];omega
 | z :: l,i+1,y,h=>by
  have:=Tr l i y (by simpa using h);simp only[Ap];omega
theorem Le {P:Program}{ops:Array Oper}{rest:List Oper}{o:Oper}{a:Act}{w:World}{Q:Exit->Act->World->Prop}(hg:o.guard=none)(w':World)(hr:(execOp a.eval o).run P w=.ok .skip w')
  (h:wpList P ops Q rest (a.put o.dst undef) w'):wpList P ops Q (o :: rest) a w:=
 wpList_plain hg fun _ hK=>by unfold Oper.wp;rw[hr];exact hK _ _ h
def JO (w0:World)(base g n c kc:Nat)(r:Nat->Bool)(w:World):Prop:=Ext [g] w0 w/\Stm w base g (if r kc then n+c else n)
section
variable {w0 w w':World} {base g n c kc i:Nat} {r:Nat->Bool}
theorem JO.grow (h:JO w0 base g n c kc r w)(hc:i≠kc)(hE:Ext [] w w'):JO w0 base g n c kc (off r i) w':=by
 have e:off r i kc=r kc:=by unfold off;simp[Ne.symm hc]
 unfold JO;rw[e];exact⟨h.1.trans hE.nil,h.2.ext hE (by simp) (by simp)⟩
theorem JO.call (h:JO w0 base g n c kc r w)(hE:Ext [g] w w')(hS:Stm w' base g n):JO w0 base g n c kc (off r kc) w':=by
 have e:off r kc kc=false:=by unfold off;simp
 unfold JO;rw[e];exact⟨h.1.trans hE,hS⟩
theorem rgO {id:Nat}{Q:Exit->Act->World->Prop}{a:Act}{w:World}{l:List Oper}(p kc c base g n:Nat)(ks:List (Nat×Ba))
  (hn:Bi ks kc≠none) (hG:∀oi,l.toArray[kc]? = some oi->oi.guard=none) (hs:Am (Bi ks) (Ext [g])) (h0:Stm w base g (n+c))
  (h:Bb prog l.toArray p (JO w base g n c kc) (fun _=>Ext [g]) (Bi ks) (fun a w=>wpList prog l.toArray Q (l.drop p) a w) 0 (l.take p) a (fun _ _=>True)) (hm:(prog).follows .mixedOrders=true:=by kernel_rfl) (hB:Ir l.toArray p=true:=by kernel_rfl):(Code.region id l.toArray true).wp prog Q a w:=
 De p (JO w base g n c kc) (fun _=>Ext [g]) (Bi ks) hm hB (fun i r w hi hg hJ=>by
  have h1:i≠kc:=by
   rintro rfl;rcases hi with hi|⟨oi,h1,h2⟩
   ·exact hn hi
   ·exact h2 (hG oi h1)
  exact hJ.grow h1 (jF _ _)) (fun i s j h _=>hs i s h) ⟨(jF _ _).drew,by
   split
   ·exact h0
   ·exact h0.less (by omega)⟩ h
end
section
variable {P:Program} {ops:Array Oper} {p:Nat} {S:Nat->Option Ba} {Q:Act->World->Prop} {k:Nat} {o:Oper} {rest:List Oper} {a:Act} {F:Nat->World->Prop} {w0:World} {base g n c kc:Nat}
theorem Ae5 (s:Ba)(hS:S k=some s)(hw:Region.wanted o (yielded ops a.tmps)=true)(hk:k=kc)
  (hh:∃(f:FuncId) (a1:Array Value),(∀w,(execOp a.eval o).run P w=.ok (.enter f a1) w)/\
   (∀w,Ext [g] w0 w->Stm w base g (n+c)->(∀e∈o.after,Region.binds .any e=true->F e.on w)->Calls P f a1 w fun e w'=>∃x,e=.returned (s.f x)/\s.V x w'/\Ext [g] w w'/\Stm w' base g n))
  (h:∀x:s.α,Bb P ops p (JO w0 base g n c kc) (fun _=>Ext [g]) S Q (k+1) rest (a.put o.dst (s.f x)) (upd F k (s.V x))):Bb P ops p (JO w0 base g n c kc) (fun _=>Ext [g]) S Q k (o :: rest) a F:=by
 subst hk;obtain⟨f,a1,hr,hu⟩:=hh;refine Fw s hS hw ⟨f,a1,hr,fun w r hg hJ hf=>(hu w hJ.1 (by have h2:=hJ.2;rw[ijp hg.mine] at h2;exact h2) hf).mono ?_⟩ h
 rintro e w' ⟨x,he,hV,hE,a2⟩;exact⟨x,he,hV,hJ.call hE a2,hE⟩
end
end
section
def Lf (p:Pg):Array Value:=#[.slice p.A p.bs.length p.cap,.slice p.B p.body.length p.bcap]
def pgZ:Array Value:=#[.slice none 0 0,.slice none 0 0]
section
variable {P Q:Nat->Prop} {N M:Nat} {w w':World} {p:Pg}
theorem PgA.ext {S:List Nat}(h:PgA P N w p)(hE:Ext S w w')(hS:∀x∈S,¬P x):PgA P N w' p:=⟨h.bufs.ext hE hS,fun b hb=>(h.each b hb).ext hE hS,h.cap,h.body.ext hE hS,fun s hs=>StA.ext hE hS (h.stmt s hs)⟩
theorem PgA.mono (h:PgA P N w p)(hP:∀b,b<w.heap.size->P b->Q b)(hN:N<=M):PgA Q M w p:=⟨h.bufs.mono hP hN,fun b hb=>(h.each b hb).mono hP hN,h.cap,h.body.mono hP hN,fun s hs=>StA.mono hP hN (h.stmt s hs)⟩
theorem PgA.inn (h:PgA P N w p)(hN:N<=1000000):Lz w p:=⟨h.bufs.inn hN,fun b hb=>(h.each b hb).inn hN,h.cap,h.body.inn hN,fun s hs=>StA.inn hN (h.stmt s hs)⟩
end
structure SpG (w:World)(Q:Nat->Prop)(M base g n rb pb:Nat)(p:Pg)(wx:World):Prop where
 ext:Ext [g] w wx
 stm:Stm wx base g n
 res:Blk wx rb 29 pgZ
 blk:Blk wx pb 29 (Lf p)
 pg:PgA (fun b=>Q b/\b≠pb/\b≠rb/\b≠g) M wx p
 pb0:w.heap.size<=pb
 pbr:pb<rb
 g0:g<w.heap.size
 bg:base<=g
section
variable {w wx wy:World} {Q:Nat->Prop} {M base g n m rb pb:Nat} {p:Pg}
theorem SpG.draw (s:SpG w Q M base g n rb pb p wx)(hE:Ext [g] wx wy)(hS:Stm wy base g m):SpG w Q M base g m rb pb p wy:=by
 have h0:=s.g0;have h1:=s.pb0;have h2:=s.pbr;exact⟨s.ext.trans hE,hS,s.res.ext hE (by rw[jA];omega),s.blk.ext hE (by rw[jA];omega),s.pg.ext hE fun x hx hh=>hh.2.2.2 (jA.1 hx),s.pb0,s.pbr,s.g0,s.bg⟩
theorem SpG.less (s:SpG w Q M base g n rb pb p wx)(hm:m<=n):SpG w Q M base g m rb pb p wx:=⟨s.ext,s.stm.less hm,s.res,s.blk,s.pg,s.pb0,s.pbr,s.g0,s.bg⟩
theorem SpG.done (s:SpG w Q M base g n rb pb p wx)(hE:Ext [rb] wx wy):PgA Q M wy p/\Ext [g] w wy/\Stm wy base g n:=by
 have h0:=s.g0;have h1:=s.pb0;have h2:=s.pbr;have h3:=s.bg;exact⟨(s.pg.ext hE fun x hx hh=>hh.2.2.1 (jA.1 hx)).mono (fun b _ hb=>hb.1) (jD _),s.ext.step hE fun x hx=>.inr (by rw[jA.1 hx];omega),s.stm.ext hE (by rw[jA];omega) (fun x hx=>by rw[jA.1 hx];omega)⟩
theorem SpG.set (s:SpG w Q M base g n rb pb p wx)(i:Nat)(y:Value)(p':Pg)(e:(Lf p).setIfInBounds i y=Lf p')(hp:PgA (fun b=>Q b/\b≠pb/\b≠rb/\b≠g) M wx p'):SpG w Q M base g n rb pb p' (wx.setCell ⟨pb,i,none⟩ y):=by
 have hE:Ext [pb] wx (wx.setCell ⟨pb,i,none⟩ y):=jL (.inl (by simp)) (jF _ _);have h0:=s.g0;have h1:=s.pb0;have h2:=s.pbr;have h3:=s.bg
 exact⟨s.ext.step hE fun q hq=>.inr (by rw[jA.1 hq];exact s.pb0),s.stm.ext hE (by rw[jA];omega) (fun q hq=>by rw[jA.1 hq];omega),s.res.ext hE (by rw[jA];omega),s.blk.set_' i y _ e,
  hp.ext hE fun x hx hh=>hh.2.1 (jA.1 hx),s.pb0,s.pbr,s.g0,s.bg⟩
end
structure SpB (w:World)(Q:Nat->Prop)(M base g n rb pb H q c:Nat)(B:Option Addr)(bcap:Nat)(body:List St)(bs:List Bf)(wx:World):Prop where
 ext:Ext [g] w wx
 stm:Stm wx base g n
 res:Blk wx rb 29 pgZ
 blk:Blk wx pb 29 #[.slice (some q) bs.length c,.slice B body.length bcap]
 own:wx.ownsRow H 45 4 (.slice (some q) bs.length c) bs.length (bs.flatMap bfC)
 each:∀b∈bs,BfA (fun b=>Q b/\b≠pb/\b≠rb/\b≠g/\b≠q) M wx b
 bsq:Ao (fun b=>Q b/\b≠pb/\b≠rb/\b≠g/\b≠q) M wx B 21 stC body
 stmt:∀s∈body,StA (fun b=>Q b/\b≠pb/\b≠rb/\b≠g/\b≠q) M wx s
 pb0:w.heap.size<=pb
 pbr:pb<rb
 rbH:rb<H
 g0:g<w.heap.size
 bg:base<=g
section
variable {w wx wy:World} {Q:Nat->Prop} {M base g n m rb pb H q c:Nat} {B:Option Addr} {bcap:Nat} {body:List St} {bs:List Bf}
theorem SpB.qH (s:SpB w Q M base g n rb pb H q c B bcap body bs wx):H<=q:=Ad s.own q rfl
theorem SpB.draw (s:SpB w Q M base g n rb pb H q c B bcap body bs wx)(hE:Ext [g] wx wy)(hS:Stm wy base g m):SpB w Q M base g m rb pb H q c B bcap body bs wy:=by
 have h0:=s.g0;have h1:=s.pb0;have h2:=s.pbr;have h3:=s.qH;have h4:=s.rbH;have hx:∀x∈[g],¬(Q x/\x≠pb/\x≠rb/\x≠g/\x≠q):=fun x hx hh=>hh.2.2.2.1 (jA.1 hx)
 exact⟨s.ext.trans hE,hS,s.res.ext hE (by rw[jA];omega),s.blk.ext hE (by rw[jA];omega),Ah s.own hE fun y hy=>by have e:q=y:=(by cases hy;rfl);rw[jA];omega,fun b hb=>(s.each b hb).ext hE hx,s.bsq.ext hE hx,fun z hz=>StA.ext hE hx (s.stmt z hz),s.pb0,s.pbr,s.rbH,s.g0,s.bg⟩
theorem SpB.less (s:SpB w Q M base g n rb pb H q c B bcap body bs wx)(hm:m<=n):SpB w Q M base g m rb pb H q c B bcap body bs wx:=⟨s.ext,s.stm.less hm,s.res,s.blk,s.own,s.each,s.bsq,s.stmt,s.pb0,s.pbr,s.rbH,s.g0,s.bg⟩
theorem SpB.lt (s:SpB w Q M base g n rb pb H q c B bcap body bs wx):q<wx.heap.size/\g<wx.heap.size/\pb<wx.heap.size/\rb<wx.heap.size:=⟨(s.own.lt q rfl).2,s.stm.lt,s.blk.lt,s.res.lt⟩
theorem Ml (b:Bf):(bfC b).length=4:=rfl
theorem SpB.cell (s:SpB w Q M base g n rb pb H q c B bcap body bs wx){j:Nat}{y:Bf}(hy:bs[j]? = some y)(k:Nat)(v:Value)(hv:(bfC y)[k]? = some v):wx.cell? ⟨q,j*4+k,none⟩=some v:=Ou Ml s.own hy k v hv
theorem SpB.frozen (s:SpB w Q M base g n rb pb H q c B bcap body bs wx):∀i:Nat,wx.frozen? ⟨q,i,none⟩=false:=by
 rcases s.own.2 with⟨h1,-⟩|⟨g',c',a1,hv,hb,hg,h1,h2,h3,h4⟩
 ·cases h1
 ·cases hv
  exact fun i=>Blk.frozen hg i
theorem SpB.put (s:SpB w Q M base g n rb pb H q c B bcap body bs wx){j:Nat}{y:Bf}(hy:bs[j]? = some y)(x:Bf){k:Nat}{v:Value}(hk:k<4)(hx:bfC x=(bfC y).set k v)(hB:BfA (fun b=>Q b/\b≠pb/\b≠rb/\b≠g/\b≠q) M wx x) :
  SpB w Q M base g n rb pb H q c B bcap body (bs.set j x) (wx.setCell ⟨q,j*4+k,none⟩ v):=by
 have hE:Ext [q] wx (wx.setCell ⟨q,j*4+k,none⟩ v):=jL (.inl (by simp)) (jF _ _);have h0:=s.g0;have h1:=s.pb0;have h2:=s.pbr;have h3:=s.qH;have h4:=s.rbH;have h5:=s.bg;have hn:∀x∈[q],¬(Q x/\x≠pb/\x≠rb/\x≠g/\x≠q):=fun x hx hh=>hh.2.2.2.2 (jA.1 hx)
 refine⟨s.ext.step hE fun y hy=>.inr (by rw[jA.1 hy];omega),s.stm.ext hE (by rw[jA];omega) (fun y hy=>by rw[jA.1 hy];omega),s.res.ext hE (by rw[jA];omega),?_,?_,fun z hz=>BfA.ext hE hn ?_,s.bsq.ext hE hn,fun z hz=>StA.ext hE hn (s.stmt z hz),s.pb0,s.pbr,s.rbH,s.g0,s.bg⟩
 ·rw[List.length_set];exact s.blk.ext hE (by rw[jA];omega)
 ·rw[List.length_set];exact Ah6 Ml s.own hy hk hx
 ·rcases List.mem_or_eq_of_mem_set hz with hz|rfl
  ·exact s.each z hz
  ·exact hB
theorem SpB.more (s:SpB w Q M base g n rb pb H q c B bcap body bs wx)(hE:Ext [q] wx wy){g8 c8:Nat}(x:Bf)(hg8:g8=q\/wx.heap.size<=g8)(hB:BfA (fun b=>Q b/\b≠pb/\b≠rb/\b≠g/\b≠q) M wx x)
  (ho:wy.ownsRow H 45 4 (.slice (some g8) (bs.length+1) c8) (bs.length+1) (bs.flatMap bfC ++ bfC x)):SpB w Q M base g n rb pb H g8 c8 B bcap body (bs ++ [x]) (wy.setCell ⟨pb,0,none⟩ (.slice (some g8) (bs.length+1) c8)):=by
 have h0:=s.g0;have h1:=s.pb0;have h2:=s.pbr;have h3:=s.qH;have h4:=s.rbH;have h5:=s.bg;have h6:=s.lt;have a7:Ext [pb] wy (wy.setCell ⟨pb,0,none⟩ (.slice (some g8) (bs.length+1) c8)):=jL (.inl (by simp)) (jF _ _);have a1:Ext [q,pb] wx (wy.setCell ⟨pb,0,none⟩ (.slice (some g8) (bs.length+1) c8)):=(hE.mono fun x hx=>.inl (by simp at hx;simp[hx])).trans (a7.mono fun x hx=>.inl (by simp at hx;simp[hx]));have hm:∀x∈[q,pb],x=q\/x=pb:=fun x hx=>by simpa using hx
 have hn:∀x∈[q,pb],¬((Q x/\x≠pb/\x≠rb/\x≠g/\x≠q)/\x<wx.heap.size):=fun x hx hh=>by
  rcases hm x hx with e|e
  ·exact hh.1.2.2.2.2 e
  ·exact hh.1.2.1 e
 have a6:∀b,(Q b/\b≠pb/\b≠rb/\b≠g/\b≠q)/\b<wx.heap.size->Q b/\b≠pb/\b≠rb/\b≠g/\b≠g8:=fun b hb=>⟨hb.1.1,hb.1.2.1,hb.1.2.2.1,hb.1.2.2.2.1,fun e=>by rcases hg8 with e8|e8;exact hb.1.2.2.2.2 (e.trans e8);omega⟩
 have a2:(bs ++ [x]).length=bs.length+1:=by simp
 refine⟨s.ext.step a1 fun y hy=>.inr (by rcases hm y hy with e|e<;>omega),s.stm.ext a1 (fun hh=>by rcases hm _ hh with e|e<;>omega) (fun y hy=>by rcases hm y hy with e|e<;>omega),s.res.ext a1 (fun hh=>by rcases hm _ hh with e|e<;>omega),?_,?_,fun z hz=>?_,?_,fun z hz=>?_,s.pb0,s.pbr,s.rbH,s.g0,s.bg⟩
 ·rw[a2];exact(s.blk.ext hE (by rw[jA];omega)).set_' 0 _ _ rfl
 ·rw[a2,List.flatMap_append];have e:List.flatMap bfC [x]=bfC x:=by simp
  rw[e];exact Ah ho a7 fun y hy=>by have:=Ad ho y hy;rw[jA];omega
 ·have:BfA (fun b=>Q b/\b≠pb/\b≠rb/\b≠g/\b≠q) M wx z:=by
   rcases jN.1 hz with hz|hz
   ·exact s.each z hz
   ·rw[jA.1 hz];exact hB
  exact BfA.mono (fun b _ hb=>a6 b hb) (jD _) (BfA.ext a1 hn (BfA.mono (fun b hb hh=>⟨hh,hb⟩) (jD _) this))
 ·exact Ao.mono (Ao.ext (Ao.mono s.bsq (fun b hb hh=>⟨hh,hb⟩) (jD _)) a1 hn) (fun b _ hb=>a6 b hb) (jD _)
 ·exact StA.mono (fun b _ hb=>a6 b hb) (jD _) (StA.ext a1 hn (StA.mono (fun b hb hh=>⟨hh,hb⟩) (jD _) (s.stmt z hz)))
theorem SpB.fin (s:SpB w Q M base g n rb pb H q c B bcap body bs wx)(hl:bs.length<=M)(hQ:Q q):SpG w Q M base g n rb pb ⟨some q,c,bs,B,bcap,body⟩ wx:=by
 have h0:=s.g0;have h1:=s.pb0;have h2:=s.pbr;have h3:=s.qH;have h4:=s.rbH;have a1:∀b,(Q b/\b≠pb/\b≠rb/\b≠g/\b≠q)->Q b/\b≠pb/\b≠rb/\b≠g:=fun b hb=>⟨hb.1,hb.2.1,hb.2.2.1,hb.2.2.2.1⟩
 exact⟨s.ext,s.stm,s.res,s.blk,⟨(Ao.own (P:=fun b=>Q b/\b≠pb/\b≠rb/\b≠g) (N:=M) Ml s.own hl (by decide) (fun q' h _ _=>by cases h;exact⟨hQ,by omega,by omega,by omega⟩)).2,fun b hb=>BfA.mono (fun b _ hb=>a1 b hb) (jD _) (s.each b hb),Adc s.own,Ao.mono s.bsq (fun b _ hb=>a1 b hb) (jD _),fun z hz=>StA.mono (fun b _ hb=>a1 b hb) (jD _) (s.stmt z hz)⟩,s.pb0,s.pbr,s.g0,s.bg⟩
end
end
section
structure SpS (w:World)(Q:Nat->Prop)(M base g n q c:Nat)(ss:List St)(wx:World):Prop where
 ext:Ext [g] w wx
 stm:Stm wx base g n
 own:wx.ownsRow w.heap.size 43 21 (.slice (some q) ss.length c) ss.length (ss.flatMap stC)
 kid:∀s∈ss,StA (fun b=>Q b/\b≠q/\b≠g) M wx s
 q0:w.heap.size<=q
 g0:g<w.heap.size
 bg:base<=g
section
variable {w wx wy:World} {Q:Nat->Prop} {M base g n m q c:Nat} {ss:List St}
theorem SpS.draw (s:SpS w Q M base g n q c ss wx)(hE:Ext [g] wx wy)(hS:Stm wy base g m):SpS w Q M base g m q c ss wy:=by
 have h0:=s.g0;have h1:=s.q0;exact⟨s.ext.trans hE,hS,Ah s.own hE fun y hy=>by have e:q=y:=(by cases hy;rfl);rw[jA];omega,fun x hx=>StA.ext hE (fun y hy hh=>hh.2.2 (jA.1 hy)) (s.kid x hx),s.q0,s.g0,s.bg⟩
theorem SpS.less (s:SpS w Q M base g n q c ss wx)(hm:m<=n):SpS w Q M base g m q c ss wx:=⟨s.ext,s.stm.less hm,s.own,s.kid,s.q0,s.g0,s.bg⟩
theorem SpS.lt (s:SpS w Q M base g n q c ss wx):q<wx.heap.size/\g<wx.heap.size:=⟨(s.own.lt q rfl).2,s.stm.lt⟩
theorem SpS.cell (s:SpS w Q M base g n q c ss wx){j:Nat}{y:St}(hy:ss[j]? = some y)(k:Nat)(v:Value)(hv:(stC y)[k]? = some v):wx.cell? ⟨q,j*21+k,none⟩=some v:=Ou Cr s.own hy k v hv
theorem SpS.frozen (s:SpS w Q M base g n q c ss wx):∀i:Nat,wx.frozen? ⟨q,i,none⟩=false:=by
 rcases s.own.2 with⟨h1,-⟩|⟨g',c',a1,hv,hb,hg,h1,h2,h3,h4⟩
 ·cases h1
 ·cases hv
  exact fun i=>Blk.frozen hg i
theorem SpS.blk (s:SpS w Q M base g n q c ss wx):∃a1:Array Value,Blk wx q 43 a1/\ss.length*21<=a1.size:=by
 rcases s.own.2 with⟨h1,-⟩|⟨g',c',a1,hv,hb,hg,h1,h2,h3,h4⟩
 ·cases h1
 ·cases hv
  exact⟨a1,hg,by rw[h3];exact Nat.mul_le_mul_right _ h1⟩
theorem SpS.puts (s:SpS w Q M base g n q c ss wx){j:Nat}{y:St}(hy:ss[j]? = some y)(x:St){k:Nat}{vs:List Value}(hk:k+vs.length<=21)(hx:stC x=Ov (stC y) k vs)(hS:StA (fun b=>Q b/\b≠q/\b≠g) M wx x) :
  SpS w Q M base g n q c (ss.set j x) (wx.setCells q (j*21+k) vs):=by
 have hE:Ext [q] wx (wx.setCells q (j*21+k) vs):=Ext.many (.inl (by simp)) _ _ _ (jF _ _);have h0:=s.g0;have h1:=s.q0;have h2:=s.bg;refine⟨s.ext.step hE fun y hy=>.inr (by rw[jA.1 hy];exact s.q0),s.stm.ext hE (by rw[jA];omega) (fun y hy=>by rw[jA.1 hy];omega),?_,fun z hz=>StA.ext hE (fun y hy hh=>hh.2.1 (jA.1 hy)) ?_,s.q0,s.g0,s.bg⟩
 ·rw[List.length_set];exact Wb Cr s.own hy hk hx
 ·rcases List.mem_or_eq_of_mem_set hz with hz|rfl
  ·exact s.kid z hz
  ·exact hS
theorem SpS.put (s:SpS w Q M base g n q c ss wx){j:Nat}{y:St}(hy:ss[j]? = some y)(x:St){k:Nat}{v:Value}(hk:k<21)(hx:stC x=(stC y).set k v)(hS:StA (fun b=>Q b/\b≠q/\b≠g) M wx x) :
  SpS w Q M base g n q c (ss.set j x) (wx.setCell ⟨q,j*21+k,none⟩ v):=s.puts hy x (vs:=[v]) (by rw[jS];omega) hx hS
theorem SpS.plain (s:SpS w Q M base g n q c ss wx){j:Nat}{h:SH}{b:List St}(hy:ss[j]? = some (.mk h b))(h':SH){k:Nat}{v:Value}(hk:k<21)(hx:stC (.mk h' b)=(stC (.mk h b)).set k v)
  (e:h'.cA=h.cA/\h'.cc=h.cc/\h'.conds=h.conds/\h'.A=h.A/\h'.at_=h.at_/\h'.val=h.val) (hz:h'.var.size<=M):SpS w Q M base g n q c (ss.set j (.mk h' b)) (wx.setCell ⟨q,j*21+k,none⟩ v):=by
 have hm:=s.kid _ (ilm hy);obtain⟨k1,k2,k3,k4,k5,k6,k7,k8⟩:=hm.all;obtain⟨e1,e2,e3,e4,e5,e6⟩:=e;exact s.put hy _ hk hx (.mk _ _ (by rw[e1,e3];exact k1) (by rw[e3];exact k2) (by rw[e5];exact k3) (by rw[e6];exact k4) (by rw[e6];exact k5) hz hm.pos (by rw[e4];exact k7) k8)
theorem SpS.fin {R:Nat}(s:SpS w Q M base g n q c ss wx)(hl:ss.length<=R)(hQ:Q q):Ao Q R wx (some q) 21 stC ss/\∀x∈ss,StA Q M wx x:=
 ⟨(Ao.own (P:=Q) (N:=R) Cr s.own hl (by decide) (fun q' h _ _=>by cases h;exact hQ)).2,fun x hx=>StA.mono (fun b _ hb=>hb.1) (jD _) (s.kid x hx)⟩
end
def SpbP (Q:Nat->Prop)(R M base g n:Nat)(w:World)(e:Ending)(w':World):Prop:=∃(A:Option Addr) (c:Nat) (ss:List St),e=.returned (.slice A ss.length c)/\Ao Q R w' A 21 stC ss/\(∀s∈ss,StA Q M w' s)/\Ext [g] w w'/\Stm w' base g n
def Ah7 (ss:List St):Prop:=∀(P Q:Nat->Prop) (R N base g n:Nat) (w:World) (A:Option Addr) (c:Nat),(∀b,P b->Q b)->(∀b,w.heap.size<=b->Q b)->(∀b,P b->b<w.heap.size)->¬P g->R<=1000->N<=1000->Ao P R w A 21 stC ss->(∀s∈ss,StA P N w s)->Stm w base g (n+1000*N+1000)->
 Calls prog 106 #[.pointer (some g),.slice A ss.length c] w (SpbP Q (2*R+40) (2*N+40) base g n w)
end
end Go.Proofs.YtfppibmloloakaaGreatDoor
