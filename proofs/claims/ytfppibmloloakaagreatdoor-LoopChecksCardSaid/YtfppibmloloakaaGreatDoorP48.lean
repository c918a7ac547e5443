import Derived.Test.YtfppibmloloakaaGreatDoorP47
namespace Go.Proofs.YtfppibmloloakaaGreatDoor
open Go.RowKit Go.Proofs.Tryz
set_option linter.all false
section
structure SpA (w:World)(H base g n rb ab:Nat)(x:Int)(v:Value)(ts:List (ByteArray×Int))(wx:World):Prop where
 ext:Ext [g] w wx
 stm:Stm wx base g n
 res:Blk wx rb 38 #[.int .i64 0,.slice none 0 0]
 blk:Blk wx ab 38 #[.int .i64 x,v]
 own:wx.ownsRow H 178 2 v ts.length (ts.flatMap tmC)
 ab0:w.heap.size<=ab
 abr:ab<rb
 rbH:rb<H
 hH:H<=wx.heap.size
 g0:g<w.heap.size
 bg:base<=g
structure SpE (w:World)(H base g n M rb ab:Nat)(wx:World):Prop where
 ext:Ext [g] w wx
 stm:Stm wx base g n
 res:Blk wx rb 38 #[.int .i64 0,.slice none 0 0]
 all:∃(x:Int) (A:Option Addr) (c:Nat) (ts:List (ByteArray×Int)),Blk wx ab 38 #[.int .i64 x,.slice A ts.length c]/\SeqA (fun b=>H<=b) M wx A 2 tmC ts
section
variable {w wx wy:World} {H base g n m M rb ab:Nat} {x:Int} {v:Value} {ts:List (ByteArray×Int)}
theorem SpA.draw (h:SpA w H base g n rb ab x v ts wx)(hE:Ext [g] wx wy)(hS:Stm wy base g m):SpA w H base g m rb ab x v ts wy:=by
 have h0:=h.g0;have h1:=h.ab0;have h2:=h.abr;have h3:=h.rbH;exact⟨h.ext.trans hE,hS,h.res.ext hE (by rw[List.mem_singleton];omega),h.blk.ext hE (by rw[List.mem_singleton];omega),own_ext h.own hE fun q hq=>by have:=own_base h.own q hq;rw[List.mem_singleton];omega,h.ab0,h.abr,h.rbH,Nat.le_trans h.hH hE.size,h.g0,h.bg⟩
theorem SpA.less (h:SpA w H base g n rb ab x v ts wx)(hm:m<=n):SpA w H base g m rb ab x v ts wx:=⟨h.ext,h.stm.less hm,h.res,h.blk,h.own,h.ab0,h.abr,h.rbH,h.hH,h.g0,h.bg⟩
theorem SpA.setX (h:SpA w H base g n rb ab x v ts wx)(y:Int):SpA w H base g n rb ab y v ts (wx.setCell ⟨ab,0,none⟩ (.int .i64 y)):=by
 have hE:Ext [ab] wx (wx.setCell ⟨ab,0,none⟩ (.int .i64 y)):=Ext.setAt (.inl (by simp)) (Ext.refl _ _);have h0:=h.g0;have h1:=h.ab0;have h2:=h.abr;have h3:=h.rbH;have h4:=h.bg
 exact⟨h.ext.step hE fun q hq=>.inr (by rw[List.mem_singleton.1 hq];exact h.ab0),h.stm.ext hE (by rw[List.mem_singleton];omega) (fun q hq=>by rw[List.mem_singleton.1 hq];omega),h.res.ext hE (by rw[List.mem_singleton];omega),h.blk.set_' 0 _ _ rfl,
  own_ext h.own hE fun q hq=>by have:=own_base h.own q hq;rw[List.mem_singleton];omega,h.ab0,h.abr,h.rbH,Nat.le_trans h.hH hE.size,h.g0,h.bg⟩
theorem SpA.row (h:SpA w H base g n rb ab x v ts wx){S:List Nat}(hE:Ext S wx wy)(hS:∀q∈S,v.ownBlock=some q):Ext [g] w wy/\Stm wy base g n/\Blk wy rb 38 #[.int .i64 0,.slice none 0 0]/\Blk wy ab 38 #[.int .i64 x,v]:=by
 have h0:=h.g0;have h1:=h.ab0;have h2:=h.abr;have h3:=h.rbH;have h4:=h.bg;have hq:∀q∈S,H<=q:=fun q hq=>own_base h.own q (hS q hq)
 exact⟨h.ext.step hE fun q hqq=>.inr (by have:=hq q hqq;omega),h.stm.ext hE (fun hm=>by have:=hq _ hm;omega) (fun q hqq=>by have:=hq q hqq;omega),h.res.ext hE (fun hm=>by have:=hq _ hm;omega),h.blk.ext hE (fun hm=>by have:=hq _ hm;omega)⟩
theorem SpA.setV (h:SpA w H base g n rb ab x v ts wx){S:List Nat}(hE:Ext S wx wy)(hS:∀q∈S,v.ownBlock=some q){u:Value}{us:List (ByteArray×Int)}(hO:wy.ownsRow H 178 2 u us.length (us.flatMap tmC)) :
  SpA w H base g n rb ab x u us (wy.setCell ⟨ab,1,none⟩ u):=by
 obtain⟨r1,r2,r3,r4⟩:=h.row hE hS;have hE2:Ext [ab] wy (wy.setCell ⟨ab,1,none⟩ u):=Ext.setAt (.inl (by simp)) (Ext.refl _ _);have h0:=h.g0;have h1:=h.ab0;have h2:=h.abr;have h3:=h.rbH;have h4:=h.bg
 exact⟨r1.step hE2 fun q hq=>.inr (by rw[List.mem_singleton.1 hq];exact h.ab0),r2.ext hE2 (by rw[List.mem_singleton];omega) (fun q hq=>by rw[List.mem_singleton.1 hq];omega),r3.ext hE2 (by rw[List.mem_singleton];omega),r4.set_' 1 _ _ rfl,
  own_ext hO hE2 fun q hq=>by have:=own_base hO q hq;rw[List.mem_singleton];omega,h.ab0,h.abr,h.rbH,Nat.le_trans h.hH (Nat.le_trans hE.size hE2.size),h.g0,h.bg⟩
theorem SpA.fin (h:SpA w H base g n rb ab x v ts wx)(hl:ts.length<=M):SpE w H base g n M rb ab wx:=by
 obtain⟨A,c,rfl,-,-⟩:=own_form h.own;exact⟨h.ext,h.stm,h.res,x,A,c,ts,h.blk,(SeqA.own (P:=fun b=>H<=b) (N:=M) tmC_len h.own hl (by decide) (fun q _ h1 _=>h1)).2⟩
end
theorem TmR.set1 {w:World}{b:Nat}{ts:List (ByteArray×Int)}(h:TmR w b ts){j:Nat}(hj:j<ts.length)(k:Int):∃s,TmR (w.setCell ⟨b,j*2+1,none⟩ (.int .i64 k)) b (ts.set j (s,k)):=by
 obtain⟨cur,h1,h2⟩:=h;obtain⟨e1,e2⟩:=h2 j _ (List.getElem?_eq_getElem hj);have hz2:=(Array.getElem?_eq_some_iff.1 e2).1;refine⟨ts[j].1,_,h1.set_ (j*2+1) (.int .i64 k),fun i y hy=>?_⟩
 rw[List.getElem?_set] at hy;by_cases hij:j=i
 ·subst hij;rw[if_pos rfl,if_pos hj] at hy;cases hy
  simp only[Array.getElem?_setIfInBounds,Array.size_setIfInBounds];constructor
  ·rw[if_neg (by omega)];exact e1
  ·rw[if_pos trivial,if_pos hz2]
 ·rw[if_neg hij] at hy;obtain⟨f1,f2⟩:=h2 i y hy;simp only[Array.getElem?_setIfInBounds,Array.size_setIfInBounds];rw[if_neg (by omega),if_neg (by omega)];exact⟨f1,f2⟩
theorem SpA.finT {w wx wy:World}{H base g n M rb ab q c:Nat}{x:Int}{ts ts':List (ByteArray×Int)}(h:SpA w H base g n rb ab x (.slice (some ⟨q,0,none⟩) ts.length c) ts wx)(hE:Ext [q] wx wy)(hT:TmR wy q ts')(hl':ts'.length=ts.length)(hl:ts.length<=M):SpE w H base g n M rb ab wy:=by
 obtain⟨r1,r2,r3,r4⟩:=h.row hE (fun y hy=>by rw[List.mem_singleton.1 hy];rfl);exact⟨r1,r2,r3,x,some ⟨q,0,none⟩,c,ts',by rw[hl'];exact r4,hT.seq (by omega) (own_base h.own q rfl)⟩
set_option maxHeartbeats 8000000 in
set_option maxRecDepth 100000 in
theorem spAf_any (P:Nat->Prop)(N base g n:Nat)(a:Af)(w:World)(h:Stm w base g (n+20))(ha:AfA P N w a)(hN:N<=100000) :
  Calls Tryz.prog 157 #[.pointer (some ⟨g,0,none⟩),afV a] w fun e w'=>∃a':Af,e=.returned (afV a')/\AfA (fun b=>w.heap.size<=b) (2*N+1) w' a'/\Ext [g] w w'/\Stm w' base g n:=by
 have HS:=hd h;have hg:=h.lt;have hbg:=h.base;have hlN:a.ts.length<=N:=ha.1;have HA:=hd ha;clear h ha;obtain⟨x,A,c,ts⟩:=a;unfold AfA at HA;dsimp only at HA hlN;generalize hl:ts.length=L at *;have HL:=hd hl;unfold afV;dsimp only;rw[hl];clear hl;go_enter Tryz.func157,Tryz.ntmps157
 go_upto_region 1 with fail
 have HE1:=hd (((Ext.refl [] w).alloc (.cells #[.int .i64 x,.slice A L c] 38)).alloc (.cells #[.int .i64 0,.slice none 0 0] 38));have HB1:=hd ((Blk.new w 38 #[.int .i64 x,.slice A L c]).alloc (.cells #[.int .i64 0,.slice none 0 0] 38));have HR1:=hd (Blk.new (w.alloc (.cells #[.int .i64 x,.slice A L c] 38)) 38 #[.int .i64 0,.slice none 0 0]);have HS1:=hd ((HS.o.alloc (.cells #[.int .i64 x,.slice A L c] 38)).alloc (.cells #[.int .i64 0,.slice none 0 0] 38));rw[alloc_size] at HR1;have hsz:((w.alloc (.cells #[.int .i64 x,.slice A L c] 38)).alloc (.cells #[.int .i64 0,.slice none 0 0] 38)).heap.size=w.heap.size+2:=by rw[alloc_size,alloc_size]
 generalize World.alloc (World.alloc w _) _=w1 at *;have hgw:g<w1.heap.size:=by omega
 generalize hab:w.heap.size=ab at *;have qb:=HB1.o.cell;have qbf:=HB1.o.frozen;have qbl:=HB1.o.lt;go_wp2_with fail
 refine(cloT_any P N A L c ts w1 (SeqA.ext HA.o HE1.o (by simp)) HL.o (by omega)).mono ?_
 rintro e w2 ⟨v,rfl,ho,hE⟩;rw[hsz,<-HL.o] at ho;obtain⟨v1,v2,rfl,-,-⟩:=own_form ho;have HO2:=hd ho;have HE2:=hd (HE1.o.trans hE);have HB2:=hd (HB1.o.ext hE (by simp));have HR2:=hd (HR1.o.ext hE (by simp));have HS2:=hd (HS1.o.ext hE (by simp) (by simp));have hH2:ab+2<=w2.heap.size:=by have:=hE.size;omega
 clear qb qbf qbl HE1 HB1 HR1 HS1 hE ho hsz hgw;have qb:=HB2.o.cell;have qbf:=HB2.o.frozen;have qbl:=HB2.o.lt;go_upto_block 0 with fail
 have HP3:Hd (SpA w (ab+2) base g (n+20) (ab+1) ab x (.slice v1 ts.length v2) ts (w2.setCell ⟨ab,1,none⟩ (.slice v1 ts.length v2))):=hd (by
  have hE2:Ext [ab] w2 (w2.setCell ⟨ab,1,none⟩ (.slice v1 ts.length v2)):=Ext.setAt (.inl (by simp)) (Ext.refl _ _)
  exact⟨HE2.o.nil.step hE2 fun q hq=>.inr (by rw[List.mem_singleton.1 hq,hab];exact Nat.le_refl _),HS2.o.ext hE2 (by rw[List.mem_singleton];omega) (fun q hq=>by rw[List.mem_singleton.1 hq];omega),HR2.o.ext hE2 (by rw[List.mem_singleton];omega),HB2.o.set_' 1 _ _ rfl,
   own_ext HO2.o hE2 fun q hq=>by have:=own_base HO2.o q hq;rw[List.mem_singleton];omega,by rw[hab];exact Nat.le_refl _,by omega,by omega,Nat.le_trans hH2 hE2.size,by omega,hbg⟩)
 clear qb qbf qbl HO2 HE2 HB2 HR2 HS2 hH2;generalize World.setCell w2 _ _=w3 at *;refine(next_any base g (n+19) 6 w3 (HP3.o.stm.less (by omega)) (by omega)).mono ?_
 rintro e w4 ⟨r,rfl,hr,hE,hS⟩;have HP4:=hd (HP3.o.draw hE hS);have hr6:r=0\/r=1\/r=2\/r=3\/r=4\/r=5:=by omega
 clear hE hS hr HP3;go_upto_block 0 with fail
 go_cut [] (fun wx=>Hd (SpE w (ab+2) base g n (2*N+1) (ab+1) ab wx))
 case first=>
  have qb:=HP4.o.blk.cell;have qbf:=HP4.o.blk.frozen;have qbl:=HP4.o.blk.lt;have hgl:g<w4.heap.size:=HP4.o.stm.lt;have hgH:g<ab:=by have:=HP4.o.g0;omega
  obtain⟨i0,hi0,hz0,hz1,hz2⟩:=tmInfo;rcases hr6 with rfl|rfl|rfl|rfl|rfl|rfl
  ·
   have HN:=hd (Blk.new w4 3 (Nums [100001,-100001,100000,-1,40]));have hE5:Ext [] w4 (w4.alloc (.cells (Nums [100001,-100001,100000,-1,40]) 3)):=(Ext.refl _ _).alloc _;have HP5:=hd (HP4.o.draw hE5.nil (HP4.o.stm.ext hE5 (by simp) (by simp)));clear hE5;simp only[Nums,List.map_cons,List.map_nil] at HN HP5;go_wp2_with fail
   refine(pick_any base g (n+10) w4.heap.size 5 3 [100001,-100001,100000,-1,40] _ (HP5.o.stm.less (by omega)) HN.o (by omega) (by decide)).mono ?_
   rintro e w6 ⟨y,rfl,-,hE,hS⟩;have HP6:=hd (HP5.o.draw hE hS);clear qb qbf qbl hE hS HN HP5 HP4;have qb:=HP6.o.blk.cell;have qbf:=HP6.o.blk.frozen;have qbl:=HP6.o.blk.lt;go_wp2_with fail
   go_meet
   exact hd (((HP6.o.setX y).less (by omega)).fin (by rw[HL.o];omega))
  ·
   have HN:=hd (Blk.new w4 178 #[.string ⟨#[122,122]⟩,.int .i64 1]);have hE5:Ext [] w4 (w4.alloc (.cells #[.string ⟨#[122,122]⟩,.int .i64 1] 178)):=(Ext.refl _ _).alloc _;have HP5:=hd (HP4.o.draw hE5.nil (HP4.o.stm.ext hE5 (by simp) (by simp)));have hH5:=HP5.o.hH;clear hE5
   go_wp2_with (
    refine wpList_append_lies _ rfl _ _ 36 rfl (ab+2) 178 i0 _ 2 24 Tryz.underlying36 hi0 hz0 hz1 hz2 rfl (by decide) (.slice v1 ts.length v2) ts.length (ts.flatMap tmC) rfl HP5.o.own ⟨w4.heap.size,0,none⟩ 1 1 (tmC (⟨#[122,122]⟩,1)) rfl rfl ?c1 (tmC_one _) (by omega) ?c3 ?c4 hH5 _ rfl ?_
    case c1=>intro j u hj;rw[Addr.add_mk,Nat.zero_add,HN.o.cell,<-Array.getElem?_toList];exact hj
    case c3=>unfold maxLen;have:=HL.o;omega
    case c4=>have:=HL.o;omega
    intro g8 c8 w8 ho8 hg8 hi8 ha8;have HE8:Hd (Ext (Value.slice v1 ts.length v2).ownBlock.toList (w4.alloc (.cells #[.string ⟨#[122,122]⟩,.int .i64 1] 178)) w8):=hd ((Ext.refl _ _).grown hg8 fun q hq=>.inl (Option.mem_toList.2 hq));have HP9:=hd (HP5.o.setV HE8.o (fun q hq=>Option.mem_toList.1 hq) (u:=.slice (some ⟨g8,0,none⟩) (ts.length+1) c8) (us:=ts ++ [(⟨#[122,122]⟩,1)]) (by rw[List.length_append,List.flatMap_append];exact ho8));have hb8:=(HP5.o.row HE8.o (fun q hq=>Option.mem_toList.1 hq)).2.2.2;have qb:=hb8.cell;have qbf:=hb8.frozen;have qbl:=hb8.lt;clear ho8 hg8 hi8 ha8 hb8)
   go_meet
   exact hd ((HP9.o.less (by omega)).fin (by rw[List.length_append,List.length_singleton,HL.o];omega))
  ·
   by_cases hz:ts.length=0
   ·have hts:=List.length_eq_zero_iff.1 hz;subst hts;have HP9:=hd (HP4.o.setV (Ext.refl [] w4) (by simp) HP4.o.own);rcases HP4.o.own.2 with⟨h,-⟩|⟨g',cap,cur,h,-⟩
    ·cases h
     rw[List.length_nil] at HP9 qb;go_wp2_with fail
     go_meet
     exact hd ((HP9.o.less (by omega)).fin (by rw[List.length_nil];omega))
    ·cases h
     have hr:∀ty,(Builtin.append_ #[36,36] ty #[.slice (some ⟨g',0,none⟩) 0 v2,.slice (some ⟨g',0,none⟩) 0 v2]).run Tryz.prog w4=.ok (.slice (some ⟨g',0,none⟩) 0 v2) w4:=fun ty=>
      run_append_room_cells (P:=Tryz.prog) _ 36 ty 178 i0 Tryz.underlying36 hi0 _ 0 0 _ _ 0 _ [] (by simp) (by simp) (by simp) (by omega) (by simp) (by simp)
     have HRR:=hd hr;clear hr;rw[List.length_nil] at HP9 qb;go_wp2_with (at_builtin;refine Lib.wpList_append_run _ rfl _ _ _ _ rfl _ _ rfl rfl _ _ (HRR.o _) ?_)
     go_meet
     exact hd ((HP9.o.less (by omega)).fin (by rw[List.length_nil];omega))
   ·obtain⟨vA',vc',hv,-,hnz⟩:=own_form HP4.o.own;cases hv
    obtain⟨q,rfl,-,-⟩:=hnz (by omega);have hH5:=HP4.o.hH;clear hnz
    go_wp2_with (
     refine wpList_append_lies _ rfl _ _ 36 rfl (ab+2) 178 i0 _ 2 24 Tryz.underlying36 hi0 hz0 hz1 hz2 rfl (by decide) (.slice (some ⟨q,0,none⟩) ts.length v2) ts.length (ts.flatMap tmC) rfl HP4.o.own ⟨q,0,none⟩ ts.length v2 (ts.flatMap tmC) rfl (flat_lenK tmC_len ts) ?c1 ?c2 (by omega) ?c3 ?c4 hH5 _ rfl ?_
     case c1=>intro j u hj;rw[Addr.add_mk,Nat.zero_add];exact cell_row HP4.o.own rfl hj
     case c2=>intro u hu;obtain⟨y,-,hy⟩:=List.mem_flatMap.1 hu;exact tmC_one y u hy
     case c3=>unfold maxLen;have:=HL.o;omega
     case c4=>have:=HL.o;omega
     intro g8 c8 w8 ho8 hg8 hi8 ha8;have HE8:Hd (Ext [q] w4 w8):=hd ((Ext.refl _ _).grown hg8 fun y hy=>.inl (by cases hy;simp));have HP9:=hd (HP4.o.setV HE8.o (fun y hy=>by rw[List.mem_singleton.1 hy];rfl) (u:=.slice (some ⟨g8,0,none⟩) (ts.length+ts.length) c8) (us:=ts ++ ts) (by rw[List.length_append,List.flatMap_append];exact ho8));have hb8:=(HP4.o.row HE8.o (fun y hy=>by rw[List.mem_singleton.1 hy];rfl)).2.2.2;have qb:=hb8.cell;have qbf:=hb8.frozen;have qbl:=hb8.lt;clear ho8 hg8 hi8 ha8 hb8)
    go_meet
    exact hd ((HP9.o.less (by omega)).fin (by rw[List.length_append,HL.o];omega))
  ·
   by_cases hz:ts.length=0
   ·have hts:=List.length_eq_zero_iff.1 hz;subst hts;go_wp2_with fail
    refine(reverse_none v1 v2 w4).mono ?_
    rintro e w5 ⟨rfl,rfl⟩;go_wp2_with fail
    go_meet
    exact hd ((HP4.o.less (by omega)).fin (by rw[List.length_nil];omega))
   ·obtain⟨vA',vc',hv,-,hnz⟩:=own_form HP4.o.own;cases hv
    obtain⟨q,rfl,-,-⟩:=hnz (by omega);have HR:=hd (reverse_any ts.length v2 q ts w4 rfl (by omega) (by rw[HL.o];omega) (TmR.own HP4.o.own));clear hnz;go_wp2_with fail
    refine HR.o.mono ?_
    rintro e w5 ⟨rfl,ts',hl',hT,hE⟩;have HF:=hd ((HP4.o.less (m:=n) (by omega)).finT (M:=2*N+1) hE hT hl' (by rw[HL.o];omega));clear hl' hT hE HR;go_wp2_with fail
    go_meet
    exact HF
  all_goals
   by_cases hz:ts.length=0
   ·have hd0:decide ((0:Int)<0)=false:=by decide
    have hts:=List.length_eq_zero_iff.1 hz;subst hts;go_upto_region 5 with fail
    refine rgC 6 1 base g (n+10) [(3,sNums 3 g),(4,sAny)] (Stays.cons sNums.stays (Stays.cons sAny.stays Stays.nil)) (HP4.o.stm.less (by omega)) ?_
    simp only[List.take_succ_cons,List.take_zero,List.drop_succ_cons,List.drop_zero]
    repeat
     refine relAt_det rfl rfl ?_
     apply Exists.intro
     refine⟨fun wr nr hJ=>?_,?_⟩
     ·have hB:=(HP4.o.draw hJ.1 hJ.2).blk;have qb:=hB.cell;have qbl:=hB.lt;clear hB;clear hJ;(go_simp;try go_bits)
      first|rfl|exact⟨rfl,rfl⟩
     simp only[Act.put,List.setIfInBounds_toArray,List.set_cons_succ,List.set_cons_zero]
    refine rel_newC (sNums 3 g) rfl rfl ?_ ?_
    ·intro wr hE hf;refine⟨wr.heap.size,.cells (Nums [1,5,-1]) 3,?_,[1,5,-1],rfl,Blk.new _ _ _,by have:=hE.size;have:=HP4.o.stm.lt;omega⟩
     go_simp;try first|rfl|exact⟨rfl,rfl⟩
    intro (b1:Nat);simp only[Act.put,List.setIfInBounds_toArray,List.set_cons_succ,List.set_cons_zero];dsimp only[sNums];refine rel_callC sAny rfl rfl ?_ ?_
    ·apply Exists.intro
     apply Exists.intro
     refine⟨fun wr=>?_,fun wr m hE hS hm hf=>?_⟩
     ·go_simp
      first|exact⟨rfl,rfl⟩|rfl
     ·obtain⟨xs,hx,hB,hbg⟩:=(after_get hf 3 (by kernel_rfl):(sNums 3 g).V b1 wr);have hp:=pick_any base g m b1 3 3 xs wr hS hB hbg (by omega);rw[hx] at hp;refine hp.mono ?_
      rintro e w' ⟨r,rfl,_,hE',hS'⟩;exact⟨r,rfl,trivial,hE',hS'⟩
    intro (y:Int);simp only[Act.put,List.setIfInBounds_toArray,List.set_cons_succ,List.set_cons_zero];dsimp only[sAny]
    repeat
     refine relAt_det rfl rfl ?_
     apply Exists.intro
     refine⟨fun wr nr hJ=>?_,?_⟩
     ·skip
      clear hJ;(go_simp;try go_bits)
      first|rfl|exact⟨rfl,rfl⟩
     simp only[Act.put,List.setIfInBounds_toArray,List.set_cons_succ,List.set_cons_zero]
    refine relAt_nil (fun w5 hJ hF=>?_)
    have HP5:=hd ((HP4.o.draw hJ.1 hJ.2).less (m:=n) (by omega));clear hJ hF HP4 qb qbf qbl;have qb:=HP5.o.blk.cell;have qbf:=HP5.o.blk.frozen;have qbl:=HP5.o.blk.lt;generalize wrap64 (x+y)=xy at *;have HP6:=hd (HP5.o.setX xy);go_wp2_with fail
    go_meet
    exact hd (HP6.o.fin (by rw[List.length_nil];omega))
   ·have hlz:0<ts.length:=by omega
    obtain⟨vA',vc',hv,-,hnz⟩:=own_form HP4.o.own;cases hv
    obtain⟨q,rfl,-,hqw⟩:=hnz (by omega);clear hnz;have HT:=hd (TmR.own HP4.o.own);have HLZ:=hd hlz;have hL0:(0:Int)<ts.length:=by omega
    have hL1:decide ((0:Int)<ts.length)=true:=decide_eq_true hL0;go_upto_region 4 with fail
    refine rgC 5 1 base g (n+10) [(3,sNums 4 g),(4,sAny)] (Stays.cons sNums.stays (Stays.cons sAny.stays Stays.nil)) (HP4.o.stm.less (by omega)) ?_
    simp only[List.take_succ_cons,List.take_zero,List.drop_succ_cons,List.drop_zero]
    repeat
     refine relAt_det rfl rfl ?_
     apply Exists.intro
     refine⟨fun wr nr hJ=>?_,?_⟩
     ·have hB:=(HP4.o.draw hJ.1 hJ.2).blk;have qb:=hB.cell;have qbl:=hB.lt;clear hB;clear hJ;(go_simp;try go_bits)
      first|rfl|exact⟨rfl,rfl⟩
     simp only[Act.put,List.setIfInBounds_toArray,List.set_cons_succ,List.set_cons_zero]
    refine rel_newC (sNums 4 g) rfl rfl ?_ ?_
    ·intro wr hE hf;refine⟨wr.heap.size,.cells (Nums [0,100001,3,-2]) 3,?_,[0,100001,3,-2],rfl,Blk.new _ _ _,by have:=hE.size;have:=HP4.o.stm.lt;omega⟩
     go_simp;try first|rfl|exact⟨rfl,rfl⟩
    intro (b1:Nat);simp only[Act.put,List.setIfInBounds_toArray,List.set_cons_succ,List.set_cons_zero];dsimp only[sNums];refine rel_callC sAny rfl rfl ?_ ?_
    ·apply Exists.intro
     apply Exists.intro
     refine⟨fun wr=>?_,fun wr m hE hS hm hf=>?_⟩
     ·go_simp
      first|exact⟨rfl,rfl⟩|rfl
     ·obtain⟨xs,hx,hB,hbg⟩:=(after_get hf 3 (by kernel_rfl):(sNums 4 g).V b1 wr);have hp:=pick_any base g m b1 4 3 xs wr hS hB hbg (by omega);rw[hx] at hp;refine hp.mono ?_
      rintro e w' ⟨r,rfl,_,hE',hS'⟩;exact⟨r,rfl,trivial,hE',hS'⟩
    intro (y:Int);simp only[Act.put,List.setIfInBounds_toArray,List.set_cons_succ,List.set_cons_zero];dsimp only[sAny];refine relAt_nil (fun w5 hJ hF=>?_)
    have HP5:=hd ((HP4.o.draw hJ.1 hJ.2).less (m:=n) (by omega));have HT5:=hd (HT.o.ext hJ.1 (by have:=own_base HP4.o.own q rfl;rw[List.mem_singleton];omega));clear hJ hF HP4 HT qb qbf qbl;obtain⟨s9,k9,-,c5,c6⟩:=HT5.o.at (i:=0) HLZ.o;have c7:=HT5.o.fz 1;have c8:=HT5.o.lt;simp only[Nat.zero_mul,Nat.zero_add] at c5 c6;obtain⟨s7,hT7⟩:=HT5.o.set1 (j:=0) HLZ.o y;simp only[Nat.zero_mul,Nat.zero_add] at hT7;have HF:=hd (HP5.o.finT (M:=2*N+1) (Ext.setAt (b:=q) (i:=1) (u:=.int .i64 y) (.inl (by simp)) (Ext.refl [q] w5)) hT7 (by rw[List.length_set]) (by rw[HL.o];omega));clear hT7;go_wp2_with fail
    go_meet
    exact HF
 case rest=>
  obtain⟨hE9,hS9,hR9,y,A9,c9,us,hB9,hQ9⟩:=hcut.o;have qb:=hB9.cell;have qbf:=hB9.frozen;have qbl:=hB9.lt;have qr:=hR9.cell;have qrf:=hR9.frozen;have qrl:=hR9.lt;have HR:=hd ((hR9.set_' 0 (.int .i64 y) #[.int .i64 y,.slice none 0 0] rfl).set_' 1 (.slice A9 us.length c9) #[.int .i64 y,.slice A9 us.length c9] rfl);have HE:=hd ((Ext.setAt (b:=ab+1) (i:=0) (u:=.int .i64 y) (.inl (by simp)) (Ext.refl [ab+1] wc)).trans (Ext.setAt (b:=ab+1) (i:=1) (u:=.slice A9 us.length c9) (.inl (by simp)) (Ext.refl [ab+1] _)));have HE9:=hd hE9;have HS9:=hd hS9;have HQ9:=hd hQ9;clear hE9 hS9 hQ9 hB9 hR9 HP4 hcut;go_wp2_with fail
  refine bodyPost_ret (results_cell_row rfl _ _ (ab+1) 38 _ (0,0) _ rfl HR.o Tryz.underlying38 rfl (by kernel_rfl)) rfl ⟨⟨y,A9,c9,us⟩,rfl,?_,?_,?_⟩
  ·exact SeqA.mono (SeqA.ext HQ9.o HE.o fun q hq=>by rw[List.mem_singleton.1 hq];omega) (fun b _ hb=>by omega) (Nat.le_refl _)
  ·exact HE9.o.step HE.o fun q hq=>.inr (by rw[List.mem_singleton.1 hq];omega)
  ·exact HS9.o.ext HE.o (by rw[List.mem_singleton];omega) (fun q hq=>by rw[List.mem_singleton.1 hq];omega)
end
section
structure SpX (w:World)(Q:Nat->Prop)(M base g n rb eb:Nat)(h:EH)(ks:List Ex)(wx:World):Prop where
 ext:Ext [g] w wx
 stm:Stm wx base g n
 res:Blk wx rb 41 zEx
 blk:Blk wx eb 41 (exArr (.mk h ks))
 kid:ExA (fun b=>Q b/\b≠eb/\b≠rb/\b≠g) M wx (.mk h ks)
 eb0:w.heap.size<=eb
 ebr:eb<rb
 g0:g<w.heap.size
 bg:base<=g
section
variable {w wx wy:World} {Q:Nat->Prop} {M base g n m rb eb:Nat} {h:EH} {ks:List Ex}
theorem SpX.draw (s:SpX w Q M base g n rb eb h ks wx)(hE:Ext [g] wx wy)(hS:Stm wy base g m):SpX w Q M base g m rb eb h ks wy:=by
 have h0:=s.g0;have h1:=s.eb0;have h2:=s.ebr;exact⟨s.ext.trans hE,hS,s.res.ext hE (by rw[List.mem_singleton];omega),s.blk.ext hE (by rw[List.mem_singleton];omega),ExA.ext hE (fun x hx hh=>hh.2.2.2 (List.mem_singleton.1 hx)) s.kid,s.eb0,s.ebr,s.g0,s.bg⟩
theorem SpX.less (s:SpX w Q M base g n rb eb h ks wx)(hm:m<=n):SpX w Q M base g m rb eb h ks wx:=⟨s.ext,s.stm.less hm,s.res,s.blk,s.kid,s.eb0,s.ebr,s.g0,s.bg⟩
theorem SpX.setH (s:SpX w Q M base g n rb eb h ks wx)(i:Nat)(y:Value)(h':EH)(ks':List Ex)(e:(exArr (.mk h ks)).setIfInBounds i y=exArr (.mk h' ks'))
  (hk:ExA (fun b=>Q b/\b≠eb/\b≠rb/\b≠g) M wx (.mk h' ks')):SpX w Q M base g n rb eb h' ks' (wx.setCell ⟨eb,i,none⟩ y):=by
 have hE:Ext [eb] wx (wx.setCell ⟨eb,i,none⟩ y):=Ext.setAt (.inl (by simp)) (Ext.refl _ _);have h0:=s.g0;have h1:=s.eb0;have h2:=s.ebr;have h3:=s.bg
 exact⟨s.ext.step hE fun q hq=>.inr (by rw[List.mem_singleton.1 hq];exact s.eb0),s.stm.ext hE (by rw[List.mem_singleton];omega) (fun q hq=>by rw[List.mem_singleton.1 hq];omega),s.res.ext hE (by rw[List.mem_singleton];omega),s.blk.set_' i y _ e,
  ExA.ext hE (fun x hx hh=>hh.2.1 (List.mem_singleton.1 hx)) hk,s.eb0,s.ebr,s.g0,s.bg⟩
theorem SpX.plain (s:SpX w Q M base g n rb eb h ks wx)(i:Nat)(y:Value)(h':EH)(e:(exArr (.mk h ks)).setIfInBounds i y=exArr (.mk h' ks))(e1:h'.at_=h.at_)(e2:h'.A=h.A):SpX w Q M base g n rb eb h' ks (wx.setCell ⟨eb,i,none⟩ y):=by
 obtain⟨k1,k2,k3⟩:=s.kid.all;exact s.setH i y h' ks e (.mk _ _ (by rw[e1];exact k1) (by rw[e2];exact k2) k3)
end
end
section
theorem own_set {α:Type}{f:α->List Value}{s:Nat}(hs:∀x,(f x).length=s)(h0:0<s){w:World}{B e n c g:Nat}{l:List α}(h:w.ownsRow B e s (.slice (some ⟨g,0,none⟩) n c) n (l.flatMap f))(hl:l.length=n){i:Nat}(hi:i<n)(x:α) :
  (w.setCells g (i*s) (f x)).ownsRow B e s (.slice (some ⟨g,0,none⟩) n c) n ((l.set i x).flatMap f)/\∃cur,Blk w g e cur/\i*s+s<=cur.size:=by
 rcases h.2 with⟨h1,-⟩|⟨g',c',cur,hv,hb,hg,h1,h2,h3,h4⟩
 ·cases h1
 ·cases hv
  have his:(i+1)*s<=n*s:=Nat.mul_le_mul_right s hi;have hns:n*s<=c*s:=Nat.mul_le_mul_right s h1;rw[Nat.succ_mul] at his;have hsz:i*s+s<=cur.size:=by rw[h3];omega
  have hln:((l.set i x).flatMap f).length=n*s:=by rw[flat_lenK hs,List.length_set,hl]
  refine⟨⟨hln,.inr ⟨g,c,setMany cur (i*s) (f x),rfl,hb,Blk.many (f x) (i*s) cur w hg,h1,h2,by rw[setMany_size];exact h3,?_⟩⟩,cur,hg,hsz⟩
  refine List.ext_getElem? fun j=>?_
  rw[List.getElem?_take];by_cases hj:j<n*s
  ·rw[if_pos hj,Array.getElem?_toList,setMany_get (f x) (i*s) cur j (by rw[hs];exact hsz),hs];have hq:j / s<l.length:=by rw[hl];exact(Nat.div_lt_iff_lt_mul h0).2 hj
   have hr:j % s<s:=Nat.mod_lt _ h0;have e1:j / s*s+j % s=j:=by rw[Nat.mul_comm];exact Nat.div_add_mod j s
   have hcur:(l.flatMap f)[j]? = cur[j]?:=by
    rw[<-h4,List.getElem?_take,if_pos hj,Array.getElem?_toList]
   by_cases hiq:i=j / s
   ·have hx:(l.set i x)[j / s]? = some x:=by rw[List.getElem?_set,if_pos hiq,if_pos (by omega)]
    have hg2:=flat_getG hs hx hr;rw[e1] at hg2;have e2:i*s+j % s=j:=by rw[hiq];exact e1
    rw[hg2,if_pos ⟨by omega,by omega⟩];congr 1
    omega
   ·have hx:(l.set i x)[j / s]? = some l[j / s]:=by rw[List.getElem?_set,if_neg hiq];exact List.getElem?_eq_getElem hq
    have hg2:=flat_getG hs hx hr;have hg3:=flat_getG hs (List.getElem?_eq_getElem hq) hr;rw[e1] at hg2 hg3;rw[hg2,<-hg3,hcur,if_neg];rintro⟨a,b⟩;apply hiq
    rcases Nat.lt_trichotomy i (j / s) with hh|hh|hh
    ·have:=Nat.mul_le_mul_right s (show i+1<=j / s from hh);rw[Nat.succ_mul] at this;omega
    ·exact hh
    ·have:=Nat.mul_le_mul_right s (show j / s+1<=i from hh);rw[Nat.succ_mul] at this;omega
  ·rw[if_neg hj,List.getElem?_eq_none (by rw[hln];omega)]
theorem own_elem {α:Type}{f:α->List Value}{s:Nat}(hs:∀x,(f x).length=s){w:World}{B e n c g:Nat}{l:List α}(h:w.ownsRow B e s (.slice (some ⟨g,0,none⟩) n c) n (l.flatMap f)){i:Nat}{x:α}(hx:l[i]? = some x) :
  ∀(j:Nat) (v:Value),(f x)[j]? = some v->w.cell? ⟨g,i*s+j,none⟩=some v:=fun j v hv=>by
 refine cell_row h rfl ?_
 have hj:=(List.getElem?_eq_some_iff.1 hv).1;rw[hs] at hj;rw[flat_getG hs hx hj];exact hv
def putL (xs:List Value)(o:Nat):List Value->List Value
 | []=>xs
 | v :: r=>putL (xs.set o v) (o+1) r
theorem putL_left:∀(vs a b:List Value) (o:Nat),o+vs.length<=a.length->putL (a ++ b) o vs=putL a o vs ++ b
 | [],_,_,_,_=>rfl
 | v :: r,a,b,o,h=>by
  rw[List.length_cons] at h;rw[putL,putL,List.set_append_left _ _ (by omega),putL_left r _ _ _ (by rw[List.length_set];omega)]
theorem putL_right:∀(vs a b:List Value) (o:Nat),putL (a ++ b) (a.length+o) vs=a ++ putL b o vs
 | [],_,_,_=>rfl
 | v :: r,a,b,o=>by
  rw[putL,putL,List.set_append_right _ _ (by omega),Nat.add_sub_cancel_left,Nat.add_assoc,putL_right r]
theorem flat_putL {α:Type}{f:α->List Value}{s:Nat}(hs:∀x,(f x).length=s){y x:α}{k:Nat}{vs:List Value}(hk:k+vs.length<=s)(hx:f x=putL (f y) k vs):∀(l:List α) (i:Nat),l[i]? = some y->putL (l.flatMap f) (i*s+k) vs=(l.set i x).flatMap f
 | [],i,h=>by simp at h
 | z :: l,0,h=>by
  cases h
  rw[List.flatMap_cons,Nat.zero_mul,Nat.zero_add,putL_left _ _ _ _ (by rw[hs];exact hk),<-hx];rfl
 | z :: l,i+1,h=>by
  have e:(i+1)*s+k=(f z).length+(i*s+k):=by rw[hs,Nat.succ_mul];omega
  rw[List.flatMap_cons,e,putL_right,flat_putL hs hk hx l i h];rfl
theorem own_raw {w:World}{B e s n c g:Nat}{xs:List Value}(h:w.ownsRow B e s (.slice (some ⟨g,0,none⟩) n c) n xs)(k:Nat)(v:Value):(w.setCell ⟨g,k,none⟩ v).ownsRow B e s (.slice (some ⟨g,0,none⟩) n c) n (xs.set k v):=by
 rcases h.2 with⟨h1,-⟩|⟨g',c',cur,hv,hb,hg,h1,h2,h3,h4⟩
 ·cases h1
 ·cases hv
  refine⟨by rw[List.length_set];exact h.1,.inr ⟨g,c,cur.setIfInBounds k v,rfl,hb,Blk.set_ hg _ _,h1,h2,by rw[Array.size_setIfInBounds];exact h3,?_⟩⟩
  rw[Array.toList_setIfInBounds,<-h4,List.take_set]
theorem own_raws {B e s n c g:Nat}:∀(vs:List Value) (o:Nat) (w:World) (xs:List Value),w.ownsRow B e s (.slice (some ⟨g,0,none⟩) n c) n xs->(w.setCells g o vs).ownsRow B e s (.slice (some ⟨g,0,none⟩) n c) n (putL xs o vs)
 | [],_,_,_,h=>h
 | v :: r,o,w,xs,h=>own_raws r (o+1) _ _ (own_raw h o v)
theorem own_cells {α:Type}{f:α->List Value}{s:Nat}(hs:∀x,(f x).length=s){w:World}{B e n c g:Nat}{l:List α}(h:w.ownsRow B e s (.slice (some ⟨g,0,none⟩) n c) n (l.flatMap f)){i:Nat}{y x:α}(hy:l[i]? = some y){k:Nat}{vs:List Value}(hk:k+vs.length<=s)(hx:f x=putL (f y) k vs) :
  (w.setCells g (i*s+k) vs).ownsRow B e s (.slice (some ⟨g,0,none⟩) n c) n ((l.set i x).flatMap f):=by
 rw[<-flat_putL hs hk hx l i hy];exact own_raws _ _ _ _ h
theorem own_cell {α:Type}{f:α->List Value}{s:Nat}(hs:∀x,(f x).length=s){w:World}{B e n c g:Nat}{l:List α}(h:w.ownsRow B e s (.slice (some ⟨g,0,none⟩) n c) n (l.flatMap f)){i:Nat}{y x:α}(hy:l[i]? = some y){k:Nat}{v:Value}(hk:k<s)(hx:f x=(f y).set k v) :
  (w.setCell ⟨g,i*s+k,none⟩ v).ownsRow B e s (.slice (some ⟨g,0,none⟩) n c) n ((l.set i x).flatMap f):=own_cells hs h hy (vs:=[v]) (by rw[List.length_singleton];omega) hx
theorem partsL_set (x:Ex):∀(l:List Ex) (i:Nat) (y:Ex),l[i]? = some y->partsL (l.set i x)+parts y=partsL l+parts x
 | [],i,y,h=>by simp at h
 | z :: l,0,y,h=>by cases h;simp only[List.set_cons_zero,partsL];omega
 | z :: l,i+1,y,h=>by
  have:=partsL_set x l i y (by simpa using h);simp only[List.set_cons_succ,partsL];omega
theorem partsL_get:∀(l:List Ex) (i:Nat) (y:Ex),l[i]? = some y->parts y<=partsL l
 | [],i,y,h=>by simp at h
 | z :: l,0,y,h=>by cases h;simp only[partsL];omega
 | z :: l,i+1,y,h=>by
  have:=partsL_get l i y (by simpa using h);simp only[partsL];omega
theorem wpList_skip_run {P:Program}{ops:Array Oper}{rest:List Oper}{o:Oper}{a:Act}{w:World}{Q:Exit->Act->World->Prop}(hg:o.guard=none)(w':World)(hr:(execOp a.eval o).run P w=.ok .skip w')
  (h:wpList P ops Q rest (a.put o.dst undef) w'):wpList P ops Q (o :: rest) a w:=
 wpList_plain hg fun _ hK=>by unfold Oper.wp;rw[hr];exact hK _ _ h
def JO (w0:World)(base g n c kc:Nat)(r:Nat->Bool)(w:World):Prop:=Ext [g] w0 w/\Stm w base g (if r kc then n+c else n)
section
variable {w0 w w':World} {base g n c kc i:Nat} {r:Nat->Bool}
theorem JO.grow (h:JO w0 base g n c kc r w)(hc:i≠kc)(hE:Ext [] w w'):JO w0 base g n c kc (off r i) w':=by
 have e:off r i kc=r kc:=by unfold off;simp[Ne.symm hc]
 unfold JO;rw[e];exact⟨h.1.trans hE.nil,h.2.ext hE (by simp) (by simp)⟩
theorem JO.call (h:JO w0 base g n c kc r w)(hE:Ext [g] w w')(hS:Stm w' base g n):JO w0 base g n c kc (off r kc) w':=by
 have e:off r kc kc=false:=by unfold off;simp
 unfold JO;rw[e];exact⟨h.1.trans hE,hS⟩
theorem rgO {id:Nat}{Q:Exit->Act->World->Prop}{a:Act}{w:World}{l:List Oper}(p kc c base g n:Nat)(ks:List (Nat×Spec))
  (hn:kinds ks kc≠none) (hG:∀oi,l.toArray[kc]? = some oi->oi.guard=none) (hs:Stays (kinds ks) (Ext [g])) (h0:Stm w base g (n+c))
  (h:relAtU Tryz.prog l.toArray p (JO w base g n c kc) (fun _=>Ext [g]) (kinds ks) (fun a w=>wpList Tryz.prog l.toArray Q (l.drop p) a w) 0 (l.take p) a (fun _ _=>True)) (hm:(Tryz.prog).follows .mixedOrders=true:=by kernel_rfl) (hB:relB l.toArray p=true:=by kernel_rfl):(Code.region id l.toArray true).wp Tryz.prog Q a w:=
 wp_region_relU p (JO w base g n c kc) (fun _=>Ext [g]) (kinds ks) hm hB (fun i r w hi hg hJ=>by
  have h1:i≠kc:=by
   rintro rfl;rcases hi with hi|⟨oi,h1,h2⟩
   ·exact hn hi
   ·exact h2 (hG oi h1)
  exact hJ.grow h1 (Ext.refl _ _)) (fun i s j h _=>hs i s h) ⟨(Ext.refl _ _).drew,by
   split
   ·exact h0
   ·exact h0.less (by omega)⟩ h
end
section
variable {P:Program} {ops:Array Oper} {p:Nat} {S:Nat->Option Spec} {Q:Act->World->Prop} {k:Nat} {o:Oper} {rest:List Oper} {a:Act} {F:Nat->World->Prop} {w0:World} {base g n c kc:Nat}
theorem rel_callO (s:Spec)(hS:S k=some s)(hw:Region.wanted o (yielded ops a.tmps)=true)(hk:k=kc)
  (hh:∃(f:FuncId) (args:Array Value),(∀w,(execOp a.eval o).run P w=.ok (.enter f args) w)/\
   (∀w,Ext [g] w0 w->Stm w base g (n+c)->(∀e∈o.after,Region.binds .any e=true->F e.on w)->Calls P f args w fun e w'=>∃x,e=.returned (s.f x)/\s.V x w'/\Ext [g] w w'/\Stm w' base g n))
  (h:∀x:s.α,relAtU P ops p (JO w0 base g n c kc) (fun _=>Ext [g]) S Q (k+1) rest (a.put o.dst (s.f x)) (upd F k (s.V x))):relAtU P ops p (JO w0 base g n c kc) (fun _=>Ext [g]) S Q k (o :: rest) a F:=by
 subst hk;obtain⟨f,args,hr,hu⟩:=hh;refine relAt_callU s hS hw ⟨f,args,hr,fun w r hg hJ hf=>(hu w hJ.1 (by have h2:=hJ.2;rw[if_pos hg.mine] at h2;exact h2) hf).mono ?_⟩ h
 rintro e w' ⟨x,he,hV,hE,hS'⟩;exact⟨x,he,hV,hJ.call hE hS',hE⟩
end
end
section
def pgArr (p:Pg):Array Value:=#[.slice p.A p.bs.length p.cap,.slice p.B p.body.length p.bcap]
def pgZ:Array Value:=#[.slice none 0 0,.slice none 0 0]
section
variable {P Q:Nat->Prop} {N M:Nat} {w w':World} {p:Pg}
theorem PgA.ext {S:List Nat}(h:PgA P N w p)(hE:Ext S w w')(hS:∀x∈S,¬P x):PgA P N w' p:=⟨h.bufs.ext hE hS,fun b hb=>(h.each b hb).ext hE hS,h.cap,h.body.ext hE hS,fun s hs=>StA.ext hE hS (h.stmt s hs)⟩
theorem PgA.mono (h:PgA P N w p)(hP:∀b,b<w.heap.size->P b->Q b)(hN:N<=M):PgA Q M w p:=⟨h.bufs.mono hP hN,fun b hb=>(h.each b hb).mono hP hN,h.cap,h.body.mono hP hN,fun s hs=>StA.mono hP hN (h.stmt s hs)⟩
theorem PgA.inn (h:PgA P N w p)(hN:N<=1000000):PgIn w p:=⟨h.bufs.inn hN,fun b hb=>(h.each b hb).inn hN,h.cap,h.body.inn hN,fun s hs=>StA.inn hN (h.stmt s hs)⟩
end
structure SpG (w:World)(Q:Nat->Prop)(M base g n rb pb:Nat)(p:Pg)(wx:World):Prop where
 ext:Ext [g] w wx
 stm:Stm wx base g n
 res:Blk wx rb 29 pgZ
 blk:Blk wx pb 29 (pgArr p)
 pg:PgA (fun b=>Q b/\b≠pb/\b≠rb/\b≠g) M wx p
 pb0:w.heap.size<=pb
 pbr:pb<rb
 g0:g<w.heap.size
 bg:base<=g
section
variable {w wx wy:World} {Q:Nat->Prop} {M base g n m rb pb:Nat} {p:Pg}
theorem SpG.draw (s:SpG w Q M base g n rb pb p wx)(hE:Ext [g] wx wy)(hS:Stm wy base g m):SpG w Q M base g m rb pb p wy:=by
 have h0:=s.g0;have h1:=s.pb0;have h2:=s.pbr;exact⟨s.ext.trans hE,hS,s.res.ext hE (by rw[List.mem_singleton];omega),s.blk.ext hE (by rw[List.mem_singleton];omega),s.pg.ext hE fun x hx hh=>hh.2.2.2 (List.mem_singleton.1 hx),s.pb0,s.pbr,s.g0,s.bg⟩
theorem SpG.less (s:SpG w Q M base g n rb pb p wx)(hm:m<=n):SpG w Q M base g m rb pb p wx:=⟨s.ext,s.stm.less hm,s.res,s.blk,s.pg,s.pb0,s.pbr,s.g0,s.bg⟩
theorem SpG.done (s:SpG w Q M base g n rb pb p wx)(hE:Ext [rb] wx wy):PgA Q M wy p/\Ext [g] w wy/\Stm wy base g n:=by
 have h0:=s.g0;have h1:=s.pb0;have h2:=s.pbr;have h3:=s.bg;exact⟨(s.pg.ext hE fun x hx hh=>hh.2.2.1 (List.mem_singleton.1 hx)).mono (fun b _ hb=>hb.1) (Nat.le_refl _),s.ext.step hE fun x hx=>.inr (by rw[List.mem_singleton.1 hx];omega),s.stm.ext hE (by rw[List.mem_singleton];omega) (fun x hx=>by rw[List.mem_singleton.1 hx];omega)⟩
theorem SpG.set (s:SpG w Q M base g n rb pb p wx)(i:Nat)(y:Value)(p':Pg)(e:(pgArr p).setIfInBounds i y=pgArr p')(hp:PgA (fun b=>Q b/\b≠pb/\b≠rb/\b≠g) M wx p'):SpG w Q M base g n rb pb p' (wx.setCell ⟨pb,i,none⟩ y):=by
 have hE:Ext [pb] wx (wx.setCell ⟨pb,i,none⟩ y):=Ext.setAt (.inl (by simp)) (Ext.refl _ _);have h0:=s.g0;have h1:=s.pb0;have h2:=s.pbr;have h3:=s.bg
 exact⟨s.ext.step hE fun q hq=>.inr (by rw[List.mem_singleton.1 hq];exact s.pb0),s.stm.ext hE (by rw[List.mem_singleton];omega) (fun q hq=>by rw[List.mem_singleton.1 hq];omega),s.res.ext hE (by rw[List.mem_singleton];omega),s.blk.set_' i y _ e,
  hp.ext hE fun x hx hh=>hh.2.1 (List.mem_singleton.1 hx),s.pb0,s.pbr,s.g0,s.bg⟩
end
structure SpB (w:World)(Q:Nat->Prop)(M base g n rb pb H q c:Nat)(B:Option Addr)(bcap:Nat)(body:List St)(bs:List Bf)(wx:World):Prop where
 ext:Ext [g] w wx
 stm:Stm wx base g n
 res:Blk wx rb 29 pgZ
 blk:Blk wx pb 29 #[.slice (some ⟨q,0,none⟩) bs.length c,.slice B body.length bcap]
 own:wx.ownsRow H 45 4 (.slice (some ⟨q,0,none⟩) bs.length c) bs.length (bs.flatMap bfC)
 each:∀b∈bs,BfA (fun b=>Q b/\b≠pb/\b≠rb/\b≠g/\b≠q) M wx b
 bsq:SeqA (fun b=>Q b/\b≠pb/\b≠rb/\b≠g/\b≠q) M wx B 21 stC body
 stmt:∀s∈body,StA (fun b=>Q b/\b≠pb/\b≠rb/\b≠g/\b≠q) M wx s
 pb0:w.heap.size<=pb
 pbr:pb<rb
 rbH:rb<H
 g0:g<w.heap.size
 bg:base<=g
section
variable {w wx wy:World} {Q:Nat->Prop} {M base g n m rb pb H q c:Nat} {B:Option Addr} {bcap:Nat} {body:List St} {bs:List Bf}
theorem SpB.qH (s:SpB w Q M base g n rb pb H q c B bcap body bs wx):H<=q:=own_base s.own q rfl
theorem SpB.draw (s:SpB w Q M base g n rb pb H q c B bcap body bs wx)(hE:Ext [g] wx wy)(hS:Stm wy base g m):SpB w Q M base g m rb pb H q c B bcap body bs wy:=by
 have h0:=s.g0;have h1:=s.pb0;have h2:=s.pbr;have h3:=s.qH;have h4:=s.rbH;have hx:∀x∈[g],¬(Q x/\x≠pb/\x≠rb/\x≠g/\x≠q):=fun x hx hh=>hh.2.2.2.1 (List.mem_singleton.1 hx)
 exact⟨s.ext.trans hE,hS,s.res.ext hE (by rw[List.mem_singleton];omega),s.blk.ext hE (by rw[List.mem_singleton];omega),own_ext s.own hE fun y hy=>by have e:q=y:=(by cases hy;rfl);rw[List.mem_singleton];omega,fun b hb=>(s.each b hb).ext hE hx,s.bsq.ext hE hx,fun z hz=>StA.ext hE hx (s.stmt z hz),s.pb0,s.pbr,s.rbH,s.g0,s.bg⟩
theorem SpB.less (s:SpB w Q M base g n rb pb H q c B bcap body bs wx)(hm:m<=n):SpB w Q M base g m rb pb H q c B bcap body bs wx:=⟨s.ext,s.stm.less hm,s.res,s.blk,s.own,s.each,s.bsq,s.stmt,s.pb0,s.pbr,s.rbH,s.g0,s.bg⟩
theorem SpB.lt (s:SpB w Q M base g n rb pb H q c B bcap body bs wx):q<wx.heap.size/\g<wx.heap.size/\pb<wx.heap.size/\rb<wx.heap.size:=⟨(s.own.lt q rfl).2,s.stm.lt,s.blk.lt,s.res.lt⟩
theorem bfC_len' (b:Bf):(bfC b).length=4:=rfl
theorem SpB.cell (s:SpB w Q M base g n rb pb H q c B bcap body bs wx){j:Nat}{y:Bf}(hy:bs[j]? = some y)(k:Nat)(v:Value)(hv:(bfC y)[k]? = some v):wx.cell? ⟨q,j*4+k,none⟩=some v:=own_elem bfC_len' s.own hy k v hv
theorem SpB.frozen (s:SpB w Q M base g n rb pb H q c B bcap body bs wx):∀i:Nat,wx.frozen? ⟨q,i,none⟩=false:=by
 rcases s.own.2 with⟨h1,-⟩|⟨g',c',cur,hv,hb,hg,h1,h2,h3,h4⟩
 ·cases h1
 ·cases hv
  exact fun i=>Blk.frozen hg i
theorem SpB.put (s:SpB w Q M base g n rb pb H q c B bcap body bs wx){j:Nat}{y:Bf}(hy:bs[j]? = some y)(x:Bf){k:Nat}{v:Value}(hk:k<4)(hx:bfC x=(bfC y).set k v)(hB:BfA (fun b=>Q b/\b≠pb/\b≠rb/\b≠g/\b≠q) M wx x) :
  SpB w Q M base g n rb pb H q c B bcap body (bs.set j x) (wx.setCell ⟨q,j*4+k,none⟩ v):=by
 have hE:Ext [q] wx (wx.setCell ⟨q,j*4+k,none⟩ v):=Ext.setAt (.inl (by simp)) (Ext.refl _ _);have h0:=s.g0;have h1:=s.pb0;have h2:=s.pbr;have h3:=s.qH;have h4:=s.rbH;have h5:=s.bg;have hn:∀x∈[q],¬(Q x/\x≠pb/\x≠rb/\x≠g/\x≠q):=fun x hx hh=>hh.2.2.2.2 (List.mem_singleton.1 hx)
 refine⟨s.ext.step hE fun y hy=>.inr (by rw[List.mem_singleton.1 hy];omega),s.stm.ext hE (by rw[List.mem_singleton];omega) (fun y hy=>by rw[List.mem_singleton.1 hy];omega),s.res.ext hE (by rw[List.mem_singleton];omega),?_,?_,fun z hz=>BfA.ext hE hn ?_,s.bsq.ext hE hn,fun z hz=>StA.ext hE hn (s.stmt z hz),s.pb0,s.pbr,s.rbH,s.g0,s.bg⟩
 ·rw[List.length_set];exact s.blk.ext hE (by rw[List.mem_singleton];omega)
 ·rw[List.length_set];exact own_cell bfC_len' s.own hy hk hx
 ·rcases List.mem_or_eq_of_mem_set hz with hz|rfl
  ·exact s.each z hz
  ·exact hB
theorem SpB.more (s:SpB w Q M base g n rb pb H q c B bcap body bs wx)(hE:Ext [q] wx wy){g8 c8:Nat}(x:Bf)(hg8:g8=q\/wx.heap.size<=g8)(hB:BfA (fun b=>Q b/\b≠pb/\b≠rb/\b≠g/\b≠q) M wx x)
  (ho:wy.ownsRow H 45 4 (.slice (some ⟨g8,0,none⟩) (bs.length+1) c8) (bs.length+1) (bs.flatMap bfC ++ bfC x)):SpB w Q M base g n rb pb H g8 c8 B bcap body (bs ++ [x]) (wy.setCell ⟨pb,0,none⟩ (.slice (some ⟨g8,0,none⟩) (bs.length+1) c8)):=by
 have h0:=s.g0;have h1:=s.pb0;have h2:=s.pbr;have h3:=s.qH;have h4:=s.rbH;have h5:=s.bg;have h6:=s.lt;have hE2:Ext [pb] wy (wy.setCell ⟨pb,0,none⟩ (.slice (some ⟨g8,0,none⟩) (bs.length+1) c8)):=Ext.setAt (.inl (by simp)) (Ext.refl _ _);have hEE:Ext [q,pb] wx (wy.setCell ⟨pb,0,none⟩ (.slice (some ⟨g8,0,none⟩) (bs.length+1) c8)):=(hE.mono fun x hx=>.inl (by simp at hx;simp[hx])).trans (hE2.mono fun x hx=>.inl (by simp at hx;simp[hx]));have hm:∀x∈[q,pb],x=q\/x=pb:=fun x hx=>by simpa using hx
 have hn:∀x∈[q,pb],¬((Q x/\x≠pb/\x≠rb/\x≠g/\x≠q)/\x<wx.heap.size):=fun x hx hh=>by
  rcases hm x hx with e|e
  ·exact hh.1.2.2.2.2 e
  ·exact hh.1.2.1 e
 have hto:∀b,(Q b/\b≠pb/\b≠rb/\b≠g/\b≠q)/\b<wx.heap.size->Q b/\b≠pb/\b≠rb/\b≠g/\b≠g8:=fun b hb=>⟨hb.1.1,hb.1.2.1,hb.1.2.2.1,hb.1.2.2.2.1,fun e=>by rcases hg8 with e8|e8;exact hb.1.2.2.2.2 (e.trans e8);omega⟩
 have hlen:(bs ++ [x]).length=bs.length+1:=by simp
 refine⟨s.ext.step hEE fun y hy=>.inr (by rcases hm y hy with e|e<;>omega),s.stm.ext hEE (fun hh=>by rcases hm _ hh with e|e<;>omega) (fun y hy=>by rcases hm y hy with e|e<;>omega),s.res.ext hEE (fun hh=>by rcases hm _ hh with e|e<;>omega),?_,?_,fun z hz=>?_,?_,fun z hz=>?_,s.pb0,s.pbr,s.rbH,s.g0,s.bg⟩
 ·rw[hlen];exact(s.blk.ext hE (by rw[List.mem_singleton];omega)).set_' 0 _ _ rfl
 ·rw[hlen,List.flatMap_append];have e:List.flatMap bfC [x]=bfC x:=by simp
  rw[e];exact own_ext ho hE2 fun y hy=>by have:=own_base ho y hy;rw[List.mem_singleton];omega
 ·have:BfA (fun b=>Q b/\b≠pb/\b≠rb/\b≠g/\b≠q) M wx z:=by
   rcases List.mem_append.1 hz with hz|hz
   ·exact s.each z hz
   ·rw[List.mem_singleton.1 hz];exact hB
  exact BfA.mono (fun b _ hb=>hto b hb) (Nat.le_refl _) (BfA.ext hEE hn (BfA.mono (fun b hb hh=>⟨hh,hb⟩) (Nat.le_refl _) this))
 ·exact SeqA.mono (SeqA.ext (SeqA.mono s.bsq (fun b hb hh=>⟨hh,hb⟩) (Nat.le_refl _)) hEE hn) (fun b _ hb=>hto b hb) (Nat.le_refl _)
 ·exact StA.mono (fun b _ hb=>hto b hb) (Nat.le_refl _) (StA.ext hEE hn (StA.mono (fun b hb hh=>⟨hh,hb⟩) (Nat.le_refl _) (s.stmt z hz)))
theorem SpB.fin (s:SpB w Q M base g n rb pb H q c B bcap body bs wx)(hl:bs.length<=M)(hQ:Q q):SpG w Q M base g n rb pb ⟨some ⟨q,0,none⟩,c,bs,B,bcap,body⟩ wx:=by
 have h0:=s.g0;have h1:=s.pb0;have h2:=s.pbr;have h3:=s.qH;have h4:=s.rbH;have hto:∀b,(Q b/\b≠pb/\b≠rb/\b≠g/\b≠q)->Q b/\b≠pb/\b≠rb/\b≠g:=fun b hb=>⟨hb.1,hb.2.1,hb.2.2.1,hb.2.2.2.1⟩
 exact⟨s.ext,s.stm,s.res,s.blk,⟨(SeqA.own (P:=fun b=>Q b/\b≠pb/\b≠rb/\b≠g) (N:=M) bfC_len' s.own hl (by decide) (fun q' h _ _=>by cases h;exact⟨hQ,by omega,by omega,by omega⟩)).2,fun b hb=>BfA.mono (fun b _ hb=>hto b hb) (Nat.le_refl _) (s.each b hb),own_cap s.own,SeqA.mono s.bsq (fun b _ hb=>hto b hb) (Nat.le_refl _),fun z hz=>StA.mono (fun b _ hb=>hto b hb) (Nat.le_refl _) (s.stmt z hz)⟩,s.pb0,s.pbr,s.g0,s.bg⟩
end
end
section
structure SpS (w:World)(Q:Nat->Prop)(M base g n q c:Nat)(ss:List St)(wx:World):Prop where
 ext:Ext [g] w wx
 stm:Stm wx base g n
 own:wx.ownsRow w.heap.size 43 21 (.slice (some ⟨q,0,none⟩) ss.length c) ss.length (ss.flatMap stC)
 kid:∀s∈ss,StA (fun b=>Q b/\b≠q/\b≠g) M wx s
 q0:w.heap.size<=q
 g0:g<w.heap.size
 bg:base<=g
section
variable {w wx wy:World} {Q:Nat->Prop} {M base g n m q c:Nat} {ss:List St}
theorem SpS.draw (s:SpS w Q M base g n q c ss wx)(hE:Ext [g] wx wy)(hS:Stm wy base g m):SpS w Q M base g m q c ss wy:=by
 have h0:=s.g0;have h1:=s.q0;exact⟨s.ext.trans hE,hS,own_ext s.own hE fun y hy=>by have e:q=y:=(by cases hy;rfl);rw[List.mem_singleton];omega,fun x hx=>StA.ext hE (fun y hy hh=>hh.2.2 (List.mem_singleton.1 hy)) (s.kid x hx),s.q0,s.g0,s.bg⟩
theorem SpS.less (s:SpS w Q M base g n q c ss wx)(hm:m<=n):SpS w Q M base g m q c ss wx:=⟨s.ext,s.stm.less hm,s.own,s.kid,s.q0,s.g0,s.bg⟩
theorem SpS.lt (s:SpS w Q M base g n q c ss wx):q<wx.heap.size/\g<wx.heap.size:=⟨(s.own.lt q rfl).2,s.stm.lt⟩
theorem SpS.cell (s:SpS w Q M base g n q c ss wx){j:Nat}{y:St}(hy:ss[j]? = some y)(k:Nat)(v:Value)(hv:(stC y)[k]? = some v):wx.cell? ⟨q,j*21+k,none⟩=some v:=own_elem stC_len s.own hy k v hv
theorem SpS.frozen (s:SpS w Q M base g n q c ss wx):∀i:Nat,wx.frozen? ⟨q,i,none⟩=false:=by
 rcases s.own.2 with⟨h1,-⟩|⟨g',c',cur,hv,hb,hg,h1,h2,h3,h4⟩
 ·cases h1
 ·cases hv
  exact fun i=>Blk.frozen hg i
theorem SpS.blk (s:SpS w Q M base g n q c ss wx):∃cur:Array Value,Blk wx q 43 cur/\ss.length*21<=cur.size:=by
 rcases s.own.2 with⟨h1,-⟩|⟨g',c',cur,hv,hb,hg,h1,h2,h3,h4⟩
 ·cases h1
 ·cases hv
  exact⟨cur,hg,by rw[h3];exact Nat.mul_le_mul_right _ h1⟩
theorem SpS.puts (s:SpS w Q M base g n q c ss wx){j:Nat}{y:St}(hy:ss[j]? = some y)(x:St){k:Nat}{vs:List Value}(hk:k+vs.length<=21)(hx:stC x=putL (stC y) k vs)(hS:StA (fun b=>Q b/\b≠q/\b≠g) M wx x) :
  SpS w Q M base g n q c (ss.set j x) (wx.setCells q (j*21+k) vs):=by
 have hE:Ext [q] wx (wx.setCells q (j*21+k) vs):=Ext.many (.inl (by simp)) _ _ _ (Ext.refl _ _);have h0:=s.g0;have h1:=s.q0;have h2:=s.bg;refine⟨s.ext.step hE fun y hy=>.inr (by rw[List.mem_singleton.1 hy];exact s.q0),s.stm.ext hE (by rw[List.mem_singleton];omega) (fun y hy=>by rw[List.mem_singleton.1 hy];omega),?_,fun z hz=>StA.ext hE (fun y hy hh=>hh.2.1 (List.mem_singleton.1 hy)) ?_,s.q0,s.g0,s.bg⟩
 ·rw[List.length_set];exact own_cells stC_len s.own hy hk hx
 ·rcases List.mem_or_eq_of_mem_set hz with hz|rfl
  ·exact s.kid z hz
  ·exact hS
theorem SpS.put (s:SpS w Q M base g n q c ss wx){j:Nat}{y:St}(hy:ss[j]? = some y)(x:St){k:Nat}{v:Value}(hk:k<21)(hx:stC x=(stC y).set k v)(hS:StA (fun b=>Q b/\b≠q/\b≠g) M wx x) :
  SpS w Q M base g n q c (ss.set j x) (wx.setCell ⟨q,j*21+k,none⟩ v):=s.puts hy x (vs:=[v]) (by rw[List.length_singleton];omega) hx hS
theorem SpS.plain (s:SpS w Q M base g n q c ss wx){j:Nat}{h:SH}{b:List St}(hy:ss[j]? = some (.mk h b))(h':SH){k:Nat}{v:Value}(hk:k<21)(hx:stC (.mk h' b)=(stC (.mk h b)).set k v)
  (e:h'.cA=h.cA/\h'.cc=h.cc/\h'.conds=h.conds/\h'.A=h.A/\h'.at_=h.at_/\h'.val=h.val) (hz:h'.var.size<=M):SpS w Q M base g n q c (ss.set j (.mk h' b)) (wx.setCell ⟨q,j*21+k,none⟩ v):=by
 have hm:=s.kid _ (List.mem_of_getElem? hy);obtain⟨k1,k2,k3,k4,k5,k6,k7,k8⟩:=hm.all;obtain⟨e1,e2,e3,e4,e5,e6⟩:=e;exact s.put hy _ hk hx (.mk _ _ (by rw[e1,e3];exact k1) (by rw[e3];exact k2) (by rw[e5];exact k3) (by rw[e6];exact k4) (by rw[e6];exact k5) hz hm.pos (by rw[e4];exact k7) k8)
theorem SpS.fin {R:Nat}(s:SpS w Q M base g n q c ss wx)(hl:ss.length<=R)(hQ:Q q):SeqA Q R wx (some ⟨q,0,none⟩) 21 stC ss/\∀x∈ss,StA Q M wx x:=
 ⟨(SeqA.own (P:=Q) (N:=R) stC_len s.own hl (by decide) (fun q' h _ _=>by cases h;exact hQ)).2,fun x hx=>StA.mono (fun b _ hb=>hb.1) (Nat.le_refl _) (s.kid x hx)⟩
end
def SpbP (Q:Nat->Prop)(R M base g n:Nat)(w:World)(e:Ending)(w':World):Prop:=∃(A:Option Addr) (c:Nat) (ss:List St),e=.returned (.slice A ss.length c)/\SeqA Q R w' A 21 stC ss/\(∀s∈ss,StA Q M w' s)/\Ext [g] w w'/\Stm w' base g n
def SpbC (ss:List St):Prop:=∀(P Q:Nat->Prop) (R N base g n:Nat) (w:World) (A:Option Addr) (c:Nat),(∀b,P b->Q b)->(∀b,w.heap.size<=b->Q b)->(∀b,P b->b<w.heap.size)->¬P g->R<=1000->N<=1000->SeqA P R w A 21 stC ss->(∀s∈ss,StA P N w s)->Stm w base g (n+1000*N+1000)->
 Calls Tryz.prog 106 #[.pointer (some ⟨g,0,none⟩),.slice A ss.length c] w (SpbP Q (2*R+40) (2*N+40) base g n w)
end
end Go.Proofs.YtfppibmloloakaaGreatDoor
