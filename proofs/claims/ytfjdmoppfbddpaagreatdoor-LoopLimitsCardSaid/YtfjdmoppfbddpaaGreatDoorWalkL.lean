import Derived.Test.YtfjdmoppfbddpaaGreatDoorP47
namespace Go.Proofs.YtfjdmoppfbddpaaGreatDoor
open Go.RowKit Go.Proofs.Tryz
set_option linter.all false
def LimS (w:World)(pb:Nat)(wx:World):Prop:=Ext [] w wx/\w.heap.size<pb/\∃p:Pg,Blk wx pb 29 #[.slice p.A p.bs.length p.cap,.slice p.B p.body.length p.bcap]/\PgIn wx p
structure NestS (w:World)(pb d a g:Nat)(m:Int)(s:St)(wx:World):Prop where
 ext:Ext [] w wx
 lt:w.heap.size<pb
 blk:Blk wx pb 29 #[.slice (some ⟨a,0,none⟩) 2 2,.slice (some ⟨g,0,none⟩) 1 1]
 bufs:Blk wx a 45 (bfA m)
 nst:NstC w.heap.size wx d g s
theorem NestS.lim {w wx:World}{pb d a g:Nat}{m:Int}{s:St}(h:NestS w pb d a g m s wx):LimS w pb wx:=⟨h.ext,h.lt,pgN m a g s,h.blk,pgN_in h.bufs h.nst.seq h.nst.inn⟩
theorem NestS.of {w w4:World}{pb d a g:Nat}{m:Int}{s:St}(hE:Ext [] w w4)(hl:w.heap.size<pb)(hP:Blk w4 pb 29 #[.slice none 0 0,.slice none 0 0])(hA:Blk w4 a 45 (bfA m))(hN:NstC w.heap.size w4 d g s) :
  NestS w pb d a g m s ((w4.setCell ⟨pb,0,none⟩ (.slice (some ⟨a,0,none⟩) 2 2)).setCell ⟨pb,1,none⟩ (.slice (some ⟨g,0,none⟩) 1 1)):=by
 have hEs:Ext [pb] w4 ((w4.setCell ⟨pb,0,none⟩ (.slice (some ⟨a,0,none⟩) 2 2)).setCell ⟨pb,1,none⟩ (.slice (some ⟨g,0,none⟩) 1 1)):=(Ext.setAt (b:=pb) (i:=0) (u:=.slice (some ⟨a,0,none⟩) 2 2) (.inl (by simp)) (Ext.refl [pb] w4)).trans (Ext.setAt (b:=pb) (i:=1) (u:=.slice (some ⟨g,0,none⟩) 1 1) (.inl (by simp)) (Ext.refl [pb] _));refine⟨hE.step hEs fun x hx=>.inr (by rw[List.mem_singleton.1 hx];omega),hl,?_,hA.ext hEs fun hm=>?_,hN.far hEs fun x hx=>?_⟩
 ·exact(hP.set_' 0 _ #[.slice (some ⟨a,0,none⟩) 2 2,.slice none 0 0] rfl).set_' 1 _ _ rfl
 ·rw[List.mem_singleton.1 hm] at hA;exact absurd (hA.type hP) (by decide)
 ·rw[List.mem_singleton.1 hx];exact⟨_,_,hP,by decide,by decide⟩
theorem NestS.size {w wx:World}{pb d a g:Nat}{m:Int}{s:St}(h:NestS w pb d a g m s wx)(ha:w.heap.size<=a)(v:Int):NestS w pb d a g v s (wx.setCell ⟨a,1,none⟩ (.int .i64 v)):=by
 have hEs:Ext [a] wx (wx.setCell ⟨a,1,none⟩ (.int .i64 v)):=Ext.setAt (.inl (by simp)) (Ext.refl [a] wx);refine⟨h.ext.step hEs fun x hx=>.inr (by rw[List.mem_singleton.1 hx];exact ha),h.lt,h.blk.ext hEs fun hm=>?_,h.bufs.set_' 1 _ _ rfl,h.nst.far hEs fun x hx=>?_⟩
 ·have hb:=h.blk;rw[List.mem_singleton.1 hm] at hb;exact absurd (hb.type h.bufs) (by decide)
 ·rw[List.mem_singleton.1 hx];exact⟨_,_,h.bufs,by decide,by decide⟩
theorem lim_bare {w wx:World}{pb a g g1:Nat}{m:Int}{nm nm1:ByteArray}{hi hi1:Int}(hE:Ext [] w wx)(hlt:w.heap.size<pb)(hP:Blk wx pb 29 #[.slice (some ⟨a,0,none⟩) 2 2,.slice (some ⟨g,0,none⟩) 1 1])(hA:Blk wx a 45 (bfA m))(hl:g1<g)
  (hg:Blk wx g 43 (stArr (hfN nm hi (some ⟨g1,0,none⟩) 1) 1 exZ 0)) (hg1:Blk wx g1 43 (stArr (hfN nm1 hi1 none 0) 0 exZ 0)) (hn:nm.size<=1000000) (hn1:nm1.size<=1000000):LimS w pb wx:=by
 have h1:StIn wx (.mk (hfN nm1 hi1 none 0) []):=stIn_for hn1 (seq_nil ..) (fun s hs=>by cases hs)
 have hseq:SeqIn wx (some ⟨g1,0,none⟩) 21 stC [.mk (hfN nm1 hi1 none 0) []]:=seq_one fun j v hv=>by
  rw[hg1.cell,<-Array.getElem?_toList];exact hv
 have h0:StIn wx (.mk (hfN nm hi (some ⟨g1,0,none⟩) 1) [.mk (hfN nm1 hi1 none 0) []]):=stIn_for hn hseq fun x hx=>by rw[List.mem_singleton.1 hx];exact h1
 have hseq0:SeqIn wx (some ⟨g,0,none⟩) 21 stC [.mk (hfN nm hi (some ⟨g1,0,none⟩) 1) [.mk (hfN nm1 hi1 none 0) []]]:=seq_one fun j v hv=>by
  rw[hg.cell,<-Array.getElem?_toList];exact hv
 exact⟨hE,hlt,pgN m a g _,hP,pgN_in hA hseq0 h0⟩
theorem NstC.two {H:Nat}{w:World}{g:Nat}{s:St}(h:NstC H w 2 g s):∃(g1 g2:Nat) (nm nm1:ByteArray) (hi hi1:Int),H<=g1/\g1<g/\g2<g1/\nm.size<=1000000/\nm1.size<=1000000/\Blk w g 43 (stArr (hfN nm hi (some ⟨g1,0,none⟩) 1) 1 exZ 0)/\Blk w g1 43 (stArr (hfN nm1 hi1 (some ⟨g2,0,none⟩) 1) 1 exZ 0):=by
 cases h with
 | step d _ g1 nm hi s _ h hlt hn hg=>
  cases h with
  | step d _ g2 nm1 hi1 s hH h hlt1 hn1 hg1=>exact⟨g1,g2,nm,nm1,hi,hi1,hH,hlt,hlt1,hn,hn1,hg,hg1⟩
theorem NstC.low {H K:Nat}(hK:K<=H){w:World}{d g:Nat}{s:St}(h:NstC H w d g s):NstC K w d g s:=by
 induction h with
 | base g kb m hH hg hk=>exact .base g kb m (Nat.le_trans hK hH) hg hk
 | step d g g' nm hi s hH h hlt hn hg ih=>exact .step d g g' nm hi s (Nat.le_trans hK hH) ih hlt hn hg
theorem rdI_blk {w:World}{b:Nat}{t:TypeId}{xs:List Int}(h:Blk w b t (Nums xs)):RdI w (some ⟨b,0,none⟩) xs:=.inr ⟨b,0,rfl,fun i x hx=>by
 rw[Nat.zero_add,h.cell];simp[Nums,hx]⟩
theorem insAt_keep {H:Nat}{v:Value}{O:List InO}{w w':World}(h:InsAt H v O w)(hE:Ext [] w w'):InsAt H v O w':=by
 obtain⟨h1,⟨B,h2,h3⟩,h4⟩:=h;exact⟨h1,⟨B,h2,own_ext h3 hE (by simp)⟩,fun x hx=>(h4 x hx).ext0 hE⟩
def nilP:Array Value:=#[.slice none 0 0,.slice none 0 0]
structure LmQ (w:World)(g pb n:Nat)(wx:World):Prop where
 ext:Ext [] w wx
 stm:Stm wx g g n
 blk:Blk wx pb 29 nilP
 lt:w.heap.size<=g
 gp:g<pb
section
variable {w wx wy:World} {g pb n m:Nat}
theorem LmQ.draw (h:LmQ w g pb n wx)(hE:Ext [g] wx wy)(hS:Stm wy g g m):LmQ w g pb m wy:=
 ⟨h.ext.step hE fun x hx=>.inr (by rw[List.mem_singleton.1 hx];exact h.lt),hS,h.blk.ext hE (by have:=h.gp;rw[List.mem_singleton];omega),h.lt,h.gp⟩
theorem LmQ.grow (h:LmQ w g pb n wx)(hE:Ext [] wx wy):LmQ w g pb n wy:=⟨h.ext.trans hE,h.stm.ext hE (by simp) (by simp),h.blk.ext hE (by simp),h.lt,h.gp⟩
theorem LmQ.less (h:LmQ w g pb n wx)(hn:m<=n):LmQ w g pb m wx:=⟨h.ext,h.stm.less hn,h.blk,h.lt,h.gp⟩
theorem LmQ.alloc (h:LmQ w g pb n wx)(o:Obj):LmQ w g pb n (wx.alloc o):=h.grow ((Ext.refl _ _).alloc o)
theorem LmQ.nest (h:LmQ w g pb n wx)(hE:Ext [] wx wy){a g1 d:Nat}{s:St}{m:Int}(hA:Blk wy a 45 (bfA m))(hN:NstC wx.heap.size wy d g1 s) :
  NestS w pb d a g1 m s ((wy.setCell ⟨pb,0,none⟩ (.slice (some ⟨a,0,none⟩) 2 2)).setCell ⟨pb,1,none⟩ (.slice (some ⟨g1,0,none⟩) 1 1)):=
 .of (h.ext.trans hE) (Nat.lt_of_le_of_lt h.lt h.gp) (h.blk.ext hE (by simp)) hA (hN.low h.ext.size)
end
theorem NestS.draw {w wx wy:World}{base g n pb d a g1:Nat}{m:Int}{s:St}(h:NestS w pb d a g1 m s wx)(hS:Stm wx base g n)(hE:Ext [g] wx wy)(hg:w.heap.size<=g):NestS w pb d a g1 m s wy:=by
 obtain⟨A,len,cap,k,hB,-⟩:=hS;refine⟨h.ext.step hE fun x hx=>.inr (by rw[List.mem_singleton.1 hx];exact hg),h.lt,h.blk.ext hE fun hm=>?_,h.bufs.ext hE fun hm=>?_,h.nst.far hE fun x hx=>?_⟩
 ·rw[<-List.mem_singleton.1 hm] at hB;exact absurd (hB.type h.blk) (by decide)
 ·rw[<-List.mem_singleton.1 hm] at hB;exact absurd (hB.type h.bufs) (by decide)
 ·rw[List.mem_singleton.1 hx];exact⟨_,_,hB,by decide,by decide⟩
theorem own_rdI {w:World}{B n c:Nat}{A:Option Addr}{xs:List Int}(h:w.ownsRow B 3 1 (.slice A n c) n (xs.map (Value.int .i64))):RdI w A xs:=by
 obtain⟨A',c',hv,-,hnz⟩:=own_form h;cases hv
 by_cases h0:xs=[]
 ·exact .inl h0
 ·have hl:=h.1;rw[List.length_map,Nat.mul_one] at hl;obtain⟨g,rfl,-,-⟩:=hnz (by have:=List.length_pos_iff.2 h0;omega);exact .inr ⟨g,0,rfl,fun i x hx=>by rw[Nat.zero_add];exact cell_row h rfl (by simp[hx])⟩
set_option maxHeartbeats 8000000 in
set_option maxRecDepth 100000 in
theorem loopLimits_any (A:Option Addr)(len cap:Nat)(w:World)(hlen:len<=9223372036854775807)(hA:0<len->∃b o,A=some ⟨b,o,none⟩/\b<w.heap.size/\∀i,i<len->∃x,w.cell? ⟨b,o+i,none⟩=some (.int .i64 x)) :
  Calls Tryz.prog 3 #[.slice A len cap] w fun e w'=>e=.returned (.bool true)/\Ext [] w w':=by
 have HST:=hd (stream_new A len cap w hlen hA);clear hA;go_enter Tryz.func3,Tryz.ntmps3
 go_upto_region 3 with fail
 have HQ2:Hd (LmQ w w.heap.size (w.heap.size+1) 1000000000 ((w.alloc (.cells #[.slice A len cap,.int .i64 0] 25)).alloc (.cells #[.slice none 0 0,.slice none 0 0] 29))):=
  hd ⟨((Ext.refl [] w).alloc _).alloc _,HST.o.alloc _,Blk.new' _ _ _ _ (by simp),Nat.le_refl _,by omega⟩
 generalize World.alloc (World.alloc w _) _=w2 at *;clear HST;generalize hg:w.heap.size=g at *;have HG:=hd hg;clear hg;go_upto_block 0 with(go_at_call 10;refine(next_any g g 999000000 5 _ (HQ2.o.stm.less (by omega)) (by omega)).mono ?_;rintro e w3 ⟨r,rfl,⟨hr0,hr1⟩,hE,hS⟩)
 have HQ3:=hd (HQ2.o.draw hE hS);replace hr1:=hr1 (by omega);clear hE hS HQ2;go_cut [] (fun wx=>LimS w (g+1) wx)
 case first=>
  have hr:r=0\/r=1\/r=2\/r=3\/r=4:=by omega
  clear hr0 hr1;rcases hr with rfl|rfl|rfl|rfl|rfl
  ·skip
   go_wp2_with fail
   refine(range_any g g 998000000 40 50 _ (HQ3.o.stm.less (by omega)) (by omega) (by omega)).mono ?_
   rintro e w4 ⟨r1,rfl,_,hE,hS⟩;have HQ4:=hd (HQ3.o.draw hE hS);clear hE hS HQ3;go_wp2_with fail
   refine(range_any g g 997000000 40 50 _ (HQ4.o.stm.less (by omega)) (by omega) (by omega)).mono ?_
   rintro e w5 ⟨r2,rfl,_,hE,hS⟩;have HQ5:=hd (HQ4.o.draw hE hS);have hpl:=HQ5.o.blk.lt;clear hE hS HQ4;have HN6:=hd ((Blk.new w5 3 (Nums [r1,r2])).alloc (.cells (Nums [1,2,9,10]) 3));have HM6:=hd (Blk.new' (w5.alloc (.cells (Nums [r1,r2]) 3)) 3 (Nums [1,2,9,10]) (w5.heap.size+1) (by simp));have HQ6:=hd ((HQ5.o.alloc (.cells (Nums [r1,r2]) 3)).alloc (.cells (Nums [1,2,9,10]) 3));simp only[Nums,List.map_cons,List.map_nil] at HN6 HM6 HQ6;go_wp2_with fail
   refine(pick_any g g 996000000 (w5.heap.size+1) 4 3 [1,2,9,10] _ (HQ6.o.stm.less (by omega)) HM6.o (by have:=HQ5.o.gp;omega) (by decide)).mono ?_
   rintro e w7 ⟨r3,rfl,hr3,hE,hS⟩;have HQ7:=hd (HQ6.o.draw hE hS);have HN7:=hd (HN6.o.ext hE (by have:=HQ5.o.gp;rw[List.mem_singleton];omega));have hr3:0<=r3/\r3<=1000:=by simp at hr3;omega
   clear hE hS HQ6 HN6 HM6;go_wp2_with fail
   refine(nest_any (some ⟨w5.heap.size,0,none⟩) 2 [r1,r2] r3 w7 (rdI_blk HN7.o) (by simp) (by omega)).mono ?_
   rintro e w8 ⟨a,g1,s,m,rfl,hE,hA,hN,hg1,ha⟩;have HS9:=hd (HQ7.o.nest hE hA hN);have qp:=(HQ7.o.grow hE).blk.cell;have qpf:=(HQ7.o.grow hE).blk.frozen;have qpl:=(HQ7.o.grow hE).blk.lt;unfold nilP at qp;clear hE hA hN HQ7;go_wp2_with fail
   go_meet
   exact HS9.o.lim
  ·skip
   have HN4:=hd (Blk.new w3 3 (Nums [1,2,3]));have HQ4:=hd (HQ3.o.alloc (.cells (Nums [1,2,3]) 3));have hpl:=HQ3.o.blk.lt;have hgp:=HQ3.o.gp;simp only[Nums,List.map_cons,List.map_nil] at HN4 HQ4;go_wp2_with fail
   refine(pick_any g g 998000000 w3.heap.size 3 3 [1,2,3] _ (HQ4.o.stm.less (by omega)) HN4.o (by omega) (by decide)).mono ?_
   rintro e w5 ⟨r1,rfl,hr1,hE,hS⟩;have HQ5:=hd (HQ4.o.draw hE hS);have hpl5:=HQ5.o.blk.lt;clear hE hS HQ4 HN4 HQ3;have HN6:=hd ((Blk.new w5 3 (Nums [r1])).alloc (.cells (Nums [19998,19999,20000,10000,9999,6666]) 3));have HM6:=hd (Blk.new' (w5.alloc (.cells (Nums [r1]) 3)) 3 (Nums [19998,19999,20000,10000,9999,6666]) (w5.heap.size+1) (by simp));have HQ6:=hd ((HQ5.o.alloc (.cells (Nums [r1]) 3)).alloc (.cells (Nums [19998,19999,20000,10000,9999,6666]) 3));simp only[Nums,List.map_cons,List.map_nil] at HN6 HM6 HQ6;go_wp2_with fail
   refine(pick_any g g 996000000 (w5.heap.size+1) 6 3 [19998,19999,20000,10000,9999,6666] _ (HQ6.o.stm.less (by omega)) HM6.o (by omega) (by decide)).mono ?_
   rintro e w7 ⟨r3,rfl,hr3,hE,hS⟩;have HQ7:=hd (HQ6.o.draw hE hS);have HN7:=hd (HN6.o.ext hE (by rw[List.mem_singleton];omega));have hr3:0<=r3/\r3<=100000:=by simp at hr3;omega
   clear hE hS HQ6 HN6 HM6;go_wp2_with fail
   refine(nest_any (some ⟨w5.heap.size,0,none⟩) 1 [r1] r3 w7 (rdI_blk HN7.o) (by simp) (by omega)).mono ?_
   rintro e w8 ⟨a,g1,s,m,rfl,hE,hA,hN,hg1,ha⟩;have HS9:=hd (HQ7.o.nest hE hA hN);have qp:=(HQ7.o.grow hE).blk.cell;have qpf:=(HQ7.o.grow hE).blk.frozen;have qpl:=(HQ7.o.grow hE).blk.lt;unfold nilP at qp;clear hE hA hN HQ7;go_wp2_with fail
   go_meet
   exact HS9.o.lim
  ·skip
   go_wp2_with fail
   refine(range_any g g 998000000 7 9 _ (HQ3.o.stm.less (by omega)) (by omega) (by omega)).mono ?_
   rintro e w4 ⟨rn,rfl,hrn,hE,hS⟩;have HQ4:=hd (HQ3.o.draw hE hS);obtain⟨nn,rfl⟩:∃nn:Nat,rn=nn:=⟨rn.toNat,by omega⟩;have hn9:nn<=9:=by omega
   clear hE hS HQ3 hrn;have hpl:=HQ4.o.blk.lt;have hgp:=HQ4.o.gp;go_wp2_with fail
   go_loopw [5,50] (fun v i wr=>∃(k:Nat) (xs:List Int) (u:Value),u=v/\i=.int .i64 k/\k<=nn/\Hd (LmQ w g (g+1) (1000*(100-k)) wr)/\w4.heap.size<=wr.heap.size/\Hd (wr.ownsRow w4.heap.size 3 1 u k (xs.map (Value.int .i64)))) (fun _ i _=>(nn-intOf i).toNat)
   case atStart=>exact⟨0,[],_,rfl,rfl,Nat.zero_le _,hd (HQ4.o.less (by omega)),Nat.le_refl _,hd (own_none _ _ _ _)⟩
   case round=>
    obtain⟨k,xs,v,rfl,rfl,hk,HQ,hsz,HO⟩:=hrel;by_cases hlt:k<nn
    ·have hklt:(k:Int)<nn:=by omega
     have HN5:=hd (Blk.new wr 3 (Nums [1,1,2,0]));have HQ5:=hd (HQ.o.alloc (.cells (Nums [1,1,2,0]) 3));have hpq:=HQ.o.blk.lt;have HO5:=hd (own_ext HO.o ((Ext.refl [] wr).alloc (.cells (Nums [1,1,2,0]) 3)) (by simp));simp only[Nums,List.map_cons,List.map_nil] at HN5 HQ5 HO5;go_wp2_with fail
     refine(pick_any g g (1000*(100-(k+1))) wr.heap.size 4 3 [1,1,2,0] _ (HQ5.o.stm.less (by omega)) HN5.o (by omega) (by decide)).mono ?_
     rintro e w6 ⟨x,rfl,hx,hE,hS⟩;have HQ6:=hd (HQ5.o.draw hE hS);have HO6:=hd (own_ext HO5.o hE fun q hq=>by have:=own_base HO5.o q hq;rw[List.mem_singleton];omega);have hsz6:w4.heap.size<=w6.heap.size:=by have:=hE.size;have:=((Ext.refl [] wr).alloc (.cells #[.int .i64 1,.int .i64 1,.int .i64 2,.int .i64 0] 3)).size;omega
     clear hE hS HQ5 HN5 HO5 hx;obtain⟨i0,hi0,hz0,hz1,hz2⟩:=intInfo;have HS9:=hd (Blk.new w6 3 #[.int .i64 x])
     go_wp2_with (
      refine wpList_append_lies _ rfl _ _ 22 rfl w4.heap.size 3 i0 _ 1 8 Tryz.underlying22 hi0 hz0 hz1 hz2 rfl (by decide) v k (xs.map (Value.int .i64)) rfl ?c0 ⟨w6.heap.size,0,none⟩ 1 1 [.int .i64 x] rfl rfl ?c1 ?c2 (by omega) ?c3 ?c4 ?c5 _ rfl ?_
      case c0=>exact own_ext HO6.o ((Ext.refl [] w6).alloc _) (by simp)
      case c1=>exact new_one _ _ _ (HS9.o.cell 0)
      case c2=>intro u hu;rw[List.mem_singleton.1 hu];rfl
      case c3=>unfold maxLen;omega
      case c4=>omega
      case c5=>exact Nat.le_trans hsz6 ((Ext.refl [] w6).alloc _).size
      intro g8 c8 w8 ho8 hg8 hi8 ha8;have HO8:=hd ho8
      have HQ8:Hd (LmQ w g (g+1) (1000*(100-(k+1))) w8):=hd (by
       have hE:Ext v.ownBlock.toList w6 w8:=((Ext.refl _ w6).alloc _).grown hg8 fun q hq=>.inl (Option.mem_toList.2 hq)
       have hb:∀q∈v.ownBlock.toList,w4.heap.size<=q:=fun q hq=>own_base HO6.o q (Option.mem_toList.1 hq)
       have h4:=HQ4.o.ext.size;exact⟨HQ6.o.ext.step hE fun q hq=>.inr (by have:=hb q hq;omega),HQ6.o.stm.ext hE (fun hm=>by have:=hb _ hm;omega) (fun q hq=>by have:=hb q hq;omega),HQ6.o.blk.ext hE (fun hm=>by have:=hb _ hm;omega),HQ6.o.lt,HQ6.o.gp⟩)
      have hsz8:w4.heap.size<=w8.heap.size:=by have:=own_form ho8;obtain⟨_,_,h1,-,h2⟩:=this;cases h1;obtain⟨q,-,h3,h4⟩:=h2 (by omega);omega
      clear ho8 hg8 hi8 ha8)
     go_roundw
     case rel=>exact⟨k+1,xs ++ [x],_,rfl,by go_num,by omega,HQ8,hsz8,by rw[List.map_append];exact HO8⟩
     case measure=>simp[intOf];omega
    ·have hkn:k=nn:=by omega
     subst hkn;have hxl:=HO.o.1;rw[List.length_map,Nat.mul_one] at hxl;obtain⟨VA,vc,rfl,-,-⟩:=own_form HO.o;have HNS:=hd (nest_any VA vc xs 1 wr (own_rdI HO.o) (by omega) (by omega));rw[hxl] at HNS;go_wp2_with fail
     refine HNS.o.mono ?_
     rintro e w8 ⟨a,g1,s,m,rfl,hE,hA,hN,hg1,ha⟩;have HS9:=hd (HQ.o.nest hE hA hN);have qp:=(HQ.o.grow hE).blk.cell;have qpf:=(HQ.o.grow hE).blk.frozen;have qpl:=(HQ.o.grow hE).blk.lt;unfold nilP at qp;clear hE hA hN HQ;go_wp2_with fail
     go_meet
     exact HS9.o.lim
  ·skip
   have HN4:=hd (Blk.new w3 3 (Nums [10,10,10,1000]));have HQ4:=hd (HQ3.o.alloc (.cells (Nums [10,10,10,1000]) 3));have hpl:=HQ3.o.blk.lt;have hgp:=HQ3.o.gp;simp only[Nums,List.map_cons,List.map_nil] at HN4 HQ4;go_wp2_with fail
   refine(pick_any g g 998000000 w3.heap.size 4 3 [10,10,10,1000] _ (HQ4.o.stm.less (by omega)) HN4.o (by omega) (by decide)).mono ?_
   rintro e w5 ⟨r1,rfl,hr1,hE,hS⟩;have HQ5:=hd (HQ4.o.draw hE hS);have hpl5:=HQ5.o.blk.lt;clear hE hS HQ4 HN4 HQ3 hr1;have HM6:=hd (Blk.new w5 3 (Nums [1249,1250,1251,100000]));have HQ6:=hd (HQ5.o.alloc (.cells (Nums [1249,1250,1251,100000]) 3));simp only[Nums,List.map_cons,List.map_nil] at HM6 HQ6;go_wp2_with fail
   refine(pick_any g g 996000000 w5.heap.size 4 3 [1249,1250,1251,100000] _ (HQ6.o.stm.less (by omega)) HM6.o (by omega) (by decide)).mono ?_
   rintro e w7 ⟨r2,rfl,hr2,hE,hS⟩;have HQ7:=hd (HQ6.o.draw hE hS);have hpl7:=HQ7.o.blk.lt;clear hE hS HQ6 HM6 HQ5 hr2;have HN8:=hd (Blk.new w7 3 (Nums [r1,r2]));have HQ8:=hd (HQ7.o.alloc (.cells (Nums [r1,r2]) 3));simp only[Nums,List.map_cons,List.map_nil] at HN8 HQ8;go_wp2_with fail
   refine(nest_any (some ⟨w7.heap.size,0,none⟩) 2 [r1,r2] 1 _ (rdI_blk HN8.o) (by simp) (by omega)).mono ?_
   rintro e w9 ⟨a,g0,s,m,rfl,hE,hA,hN,hg0,ha⟩;have HS9:=hd (HQ8.o.nest hE hA hN);have HT9:=hd (((HQ8.o.grow hE).stm.setAt (b:=g+1) (i:=0) (u:=.slice (some ⟨a,0,none⟩) 2 2) (by omega) (by omega)).setAt (b:=g+1) (i:=1) (u:=.slice (some ⟨g0,0,none⟩) 1 1) (by omega) (by omega));have qp:=(HQ8.o.grow hE).blk.cell;have qpf:=(HQ8.o.grow hE).blk.frozen;have qpl:=(HQ8.o.grow hE).blk.lt;unfold nilP at qp;clear hE hA hN HQ8 HN8 HQ7 ha hg0 hpl hpl5 hpl7;go_upto_region 19 with fail
   generalize World.setCell (World.setCell w9 _ _) _ _=wa at *;clear qp qpf qpl;go_wp2_with fail
   refine(flip_any g g 990000000 3 _ (HT9.o.less (by omega)) (by omega)).mono ?_
   rintro e wb ⟨fl,rfl,hE,hS⟩;have HSb:=hd (HS9.o.draw HT9.o hE (by have:=HG.o;omega));have HTb:=hd hS;clear hE hS HS9 HT9;cases fl
   ·go_wp2_with fail
    go_meet
    exact HSb.o.lim
   ·obtain⟨g1,g2,nm,nm1,hi,hi1,hH,hl1,hl2,hn,hn1,hB0,hB1⟩:=HSb.o.nst.two;have HB0:=hd hB0;have HB1:=hd hB1;have HNN:=hd (And.intro hn hn1);have hLH:g<=g1:=by have:=HG.o;omega
    clear hB0 hB1 hn hn1 hH;have qp:=HSb.o.blk.cell;have qpl:=HSb.o.blk.lt;have q0:=HB0.o.cell;have q0l:=HB0.o.lt;have q1:=HB1.o.cell;have q1f:=HB1.o.frozen;have q1l:=HB1.o.lt;unfold stArr hfN exZ afZ at q0 q1;simp only[List.length_nil] at q0 q1;have HBc:=hd (HB1.o.set_' 7 (.slice none 0 0) (stArr (hfN nm1 hi1 none 0) 0 exZ 0) rfl);have HEc:=hd (Ext.setAt (b:=g1) (i:=7) (u:=.slice none 0 0) (.inl (by simp)) (Ext.refl [g1] wb));go_upto_region 21 with fail
    generalize World.setCell wb _ _=wc at *;clear qp qpl q0 q0l q1 q1f q1l
    have hne1:g1≠g+1:=fun e=>by
     subst e;exact absurd (HB1.o.type HSb.o.blk) (by decide)
    have hneg:g1≠g:=fun e=>by
     subst e;obtain⟨A',len',cap',k',hB',-⟩:=HTb.o;exact absurd (HB1.o.type hB') (by decide)
    have hne0:g0≠g:=fun e=>by
     subst e;obtain⟨A',len',cap',k',hB',-⟩:=HTb.o;exact absurd (HB0.o.type hB') (by decide)
    have hnea:a≠g1:=fun e=>by
     subst e;exact absurd (HB1.o.type HSb.o.bufs) (by decide)
    have hneag:a≠g:=fun e=>by
     subst e;obtain⟨A',len',cap',k',hB',-⟩:=HTb.o;exact absurd (HSb.o.bufs.type hB') (by decide)
    have HPc:=hd (HSb.o.blk.ext HEc.o (by rw[List.mem_singleton];omega));have HAc:=hd (HSb.o.bufs.ext HEc.o (by rw[List.mem_singleton];omega));have HB0c:=hd (HB0.o.ext HEc.o (by rw[List.mem_singleton];omega));have HTc:=hd (HTb.o.ext HEc.o (by rw[List.mem_singleton];omega) (by intro x hx;rw[List.mem_singleton] at hx;omega));have HXc:=hd (HSb.o.ext.step HEc.o fun x hx=>.inr (by rw[List.mem_singleton.1 hx];have:=HG.o;omega));have HPG:Hd (g+1∉[g]):=hd (by rw[List.mem_singleton];omega);have H0G:Hd (g0∉[g]):=hd (by rw[List.mem_singleton];omega);have H1G:Hd (g1∉[g]):=hd (by rw[List.mem_singleton];omega);have HAG:Hd (a∉[g]):=hd (by rw[List.mem_singleton];omega);refine wp_region_rel 10 (JS g g 980000000 _) (Ext [g]) (kinds [(6,sNums 3 g),(7,sAny)]) (by kernel_rfl) (by kernel_rfl) JS.less ?_ (JS.start (Stm.less HTc.o (by omega))) ?_
    ·repeat(first|exact Stays.nil|refine Stays.cons sAny.stays ?_|refine Stays.cons sNums.stays ?_)
    simp only[List.take_succ_cons,List.take_zero,List.drop_succ_cons,List.drop_zero]
    repeat
     refine relAt_det rfl rfl ?_
     apply Exists.intro
     refine⟨fun wr nr hJ=>?_,?_⟩
     ·have qp:=(HPc.o.ext hJ.1 HPG.o).cell;have qpl:=(HPc.o.ext hJ.1 HPG.o).lt;have q0:=(HB0c.o.ext hJ.1 H0G.o).cell;have q0l:=(HB0c.o.ext hJ.1 H0G.o).lt;unfold stArr hfN exZ afZ at q0;simp only[List.length_nil] at q0;clear hJ;(go_simp;try go_bits)
      first|rfl|exact⟨rfl,rfl⟩
     simp only[Act.put,List.setIfInBounds_toArray,List.set_cons_succ,List.set_cons_zero]
    refine rel_nums 3 [2498,2499,100000] rfl rfl rfl ?_ ?_
    ·intro wr;go_simp;try first|rfl|exact⟨rfl,rfl⟩
    intro (b:Nat);simp only[Act.put,List.setIfInBounds_toArray,List.set_cons_succ,List.set_cons_zero];refine rel_pick 6 b 3 rfl rfl (by kernel_rfl) rfl (by omega) ?_ ?_
    ·intro wr;go_simp;try first|rfl|exact⟨rfl,rfl⟩
    intro (v:Int);simp only[Act.put,List.setIfInBounds_toArray,List.set_cons_succ,List.set_cons_zero]
    repeat
     refine relAt_det rfl rfl ?_
     apply Exists.intro
     refine⟨fun wr nr hJ=>?_,?_⟩
     ·have q1:=(HBc.o.ext hJ.1 H1G.o).cell;have q1l:=(HBc.o.ext hJ.1 H1G.o).lt;unfold stArr hfN exZ afZ at q1;simp only[List.length_nil] at q1;clear hJ;(go_simp;try go_bits)
      first|rfl|exact⟨rfl,rfl⟩
     simp only[Act.put,List.setIfInBounds_toArray,List.set_cons_succ,List.set_cons_zero]
    refine relAt_nil (fun wy hJ hF=>?_)
    have HEy:=hd hJ.1;have HBy:=hd (HBc.o.ext hJ.1 H1G.o);have q1:=HBy.o.cell;have q1f:=HBy.o.frozen;have q1l:=HBy.o.lt;unfold stArr hfN exZ afZ at q1;simp only[List.length_nil] at q1;clear hJ hF;have HEz:=hd (Ext.setAt (b:=g1) (i:=3) (u:=.int .i64 v) (.inl (by simp)) (Ext.refl [g1] wy));have HBz:=hd (HBy.o.set_' 3 (.int .i64 v) (stArr (hfN nm1 v none 0) 0 exZ 0) rfl);go_wp2_with fail
    go_meet
    have hX:=(HXc.o.step HEy.o fun x hx=>.inr (by rw[List.mem_singleton.1 hx];have:=HG.o;omega)).step HEz.o fun x hx=>.inr (by rw[List.mem_singleton.1 hx];have:=HG.o;omega)
    have hP:=(HPc.o.ext HEy.o HPG.o).ext HEz.o (by rw[List.mem_singleton];omega);have hA:=(HAc.o.ext HEy.o HAG.o).ext HEz.o (by rw[List.mem_singleton];omega);have hB0:=(HB0c.o.ext HEy.o H0G.o).ext HEz.o (by rw[List.mem_singleton];omega);exact lim_bare hX HSb.o.lt hP hA hl1 hB0 HBz.o HNN.o.1 HNN.o.2
  ·skip
   have HN4:=hd (Blk.new w3 3 (Nums [2]));have HQ4:=hd (HQ3.o.alloc (.cells (Nums [2]) 3));have hpl:=HQ3.o.blk.lt;have hgp:=HQ3.o.gp;simp only[Nums,List.map_cons,List.map_nil] at HN4 HQ4;go_wp2_with fail
   refine(nest_any (some ⟨w3.heap.size,0,none⟩) 1 [2] 1 _ (rdI_blk HN4.o) (by simp) (by omega)).mono ?_
   rintro e w5 ⟨a,g1,s,m,rfl,hE,hA,hN,hg1,ha⟩;have HS6:=hd (HQ4.o.nest hE hA hN);have HT6:=hd (((HQ4.o.grow hE).stm.setAt (b:=g+1) (i:=0) (u:=.slice (some ⟨a,0,none⟩) 2 2) (by omega) (by omega)).setAt (b:=g+1) (i:=1) (u:=.slice (some ⟨g1,0,none⟩) 1 1) (by omega) (by omega));have hLA:g<=a:=by have:=HQ4.o.ext.size;have:=HG.o;omega
   have qp:=(HQ4.o.grow hE).blk.cell;have qpf:=(HQ4.o.grow hE).blk.frozen;have qpl:=(HQ4.o.grow hE).blk.lt;unfold nilP at qp;clear hE hA hN HQ4 HN4 HQ3 ha hpl;go_upto_region 5 with fail
   generalize World.setCell (World.setCell w5 _ _) _ _=w6 at *;clear qp qpf qpl;have HPG:Hd (g+1∉[g]):=hd (by rw[List.mem_singleton];omega)
   have HAG:Hd (a∉[g]):=hd (by
    rw[List.mem_singleton];rintro rfl;obtain⟨A',len',cap',k',hB',-⟩:=HT6.o;exact absurd (hB'.type HS6.o.bufs) (by decide))
   refine wp_region_rel 7 (JS g g 990000000 _) (Ext [g]) (kinds [(3,sNums 3 g),(4,sAny)]) (by kernel_rfl) (by kernel_rfl) JS.less ?_ (JS.start (Stm.less HT6.o (by omega))) ?_
   ·repeat(first|exact Stays.nil|refine Stays.cons sAny.stays ?_|refine Stays.cons sNums.stays ?_)
   simp only[List.take_succ_cons,List.take_zero,List.drop_succ_cons,List.drop_zero]
   repeat
    refine relAt_det rfl rfl ?_
    apply Exists.intro
    refine⟨fun wr nr hJ=>?_,?_⟩
    ·have qp:=(HS6.o.blk.ext hJ.1 HPG.o).cell;have qpl:=(HS6.o.blk.ext hJ.1 HPG.o).lt;clear hJ;(go_simp;try go_bits)
     first|rfl|exact⟨rfl,rfl⟩
    simp only[Act.put,List.setIfInBounds_toArray,List.set_cons_succ,List.set_cons_zero]
   refine rel_nums 3 [262142,262143,262144] rfl rfl rfl ?_ ?_
   ·intro wr;go_simp;try first|rfl|exact⟨rfl,rfl⟩
   intro (b:Nat);simp only[Act.put,List.setIfInBounds_toArray,List.set_cons_succ,List.set_cons_zero];refine rel_pick 3 b 3 rfl rfl (by kernel_rfl) rfl (by omega) ?_ ?_
   ·intro wr;go_simp;try first|rfl|exact⟨rfl,rfl⟩
   intro (v:Int);simp only[Act.put,List.setIfInBounds_toArray,List.set_cons_succ,List.set_cons_zero]
   repeat
    refine relAt_det rfl rfl ?_
    apply Exists.intro
    refine⟨fun wr nr hJ=>?_,?_⟩
    ·have qp:=(HS6.o.bufs.ext hJ.1 HAG.o).cell;have qpl:=(HS6.o.bufs.ext hJ.1 HAG.o).lt;clear hJ;(go_simp;try go_bits)
     first|rfl|exact⟨rfl,rfl⟩
    simp only[Act.put,List.setIfInBounds_toArray,List.set_cons_succ,List.set_cons_zero]
   refine relAt_nil (fun wy hJ hF=>?_)
   have HSy:=hd (HS6.o.draw HT6.o hJ.1 (by have:=HG.o;omega));have HSz:=hd (HSy.o.size (by have:=HG.o;omega) v);have qa:=HSy.o.bufs.cell;have qaf:=HSy.o.bufs.frozen;have qal:=HSy.o.bufs.lt;unfold bfA at qa;clear hJ hF;go_wp2_with fail
   go_meet
   exact HSz.o.lim
 case rest=>
  clear HQ3 hr0 hr1;obtain⟨hE,hpb,p,hB,hP⟩:=hcut;have HE0:=hd hE;have HB0:=hd hB;have HP0:=hd hP;clear hE hB hP;have HL:=hd (loopFaultR_any p _ HP0.o);have HOF:=hd (@orderE_zero p);have HOC:=hd (@orderE_check p);have HKF:=hd (@io_fit p);have HWK:=hd (@wr_keys p);have HKW:=hd (@keys_few p);have HOR:=hd (fun W (hW:Ext [] wc W)=>order_any p W (HP0.o.keep hW));have HIN:=hd (fun W (hW:Ext [] wc W)=>instances_any p W (HP0.o.keep hW));have HCK:=hd (fun W (hW:Ext [] wc W)=>check_any p W (HP0.o.keep hW));unfold OrdP at HOR;unfold InstP at HIN;generalize hoe:orderE p=oe at *;generalize hce:checkE p.bs p.body=ce at *;obtain⟨PA,pcap,bs,PB,bcap,body⟩:=p;simp only at HB0 hce HKF HWK HKW;unfold pgV at HL HOR HIN HCK;simp only at HL HOR HIN HCK;have qp:=HB0.o.cell;have qpl:=HB0.o.lt;go_wp2_with fail
  refine HL.o.mono ?_
  rintro e w4 ⟨rfl,hE⟩;have HE4:=hd hE;have qp:=(HB0.o.ext HE4.o (by simp)).cell;have qpl:=(HB0.o.ext HE4.o (by simp)).lt;clear hE;go_wp2_with fail
  refine(HOR.o w4 HE4.o).mono ?_
  rintro e w5 ⟨hE,hcs⟩;have hs45:=hE.size;have HE5:=hd (HE4.o.trans hE);have qp:=(HB0.o.ext HE5.o (by simp)).cell;have qpl:=(HB0.o.ext HE5.o (by simp)).lt;clear hE;rcases hcs with⟨h0,rfl⟩|⟨rfl,O,v,rfl,hO,hA⟩
  ·have HH0:=hd h0;go_wp2_with fail
   refine(HIN.o w5 HE5.o).mono ?_
   rintro e w6 ⟨hE,hcs⟩;have HE6:=hd (HE5.o.trans hE);have qp:=(HB0.o.ext HE6.o (by simp)).cell;have qpl:=(HB0.o.ext HE6.o (by simp)).lt;clear hE;rcases hcs with⟨-,rfl⟩|⟨h1,-⟩
   ·have HW:=hd (work_any w6);have HC6:=hd (fun W (hW:Ext [] w6 W)=>HCK.o W (HE6.o.trans hW));by_cases hc0:ce=0
    ·subst hc0;have hq:(oe==0)=false:=by simpa using h0
     go_wp2_with fail
     refine HW.o.mono ?_
     rintro e w7 ⟨rfl,hE⟩;have qp:=(HB0.o.ext (HE6.o.trans hE) (by simp)).cell;have qpl:=(HB0.o.ext (HE6.o.trans hE) (by simp)).lt;have HE7:=hd hE;clear hE;go_wp2_with fail
     refine(HC6.o w7 HE7.o).mono ?_
     rintro e w8 ⟨rfl,hE⟩;have HE8:=hd (HE0.o.trans ((HE6.o.trans HE7.o).trans hE));clear hE;go_wp2_with fail
     go_ret
     exact⟨rfl,HE8.o⟩
    ·have hoc:=HOC.o hc0;subst hoc;have hq:(oe==0)=false:=by simpa using h0
     go_wp2_with fail
     refine HW.o.mono ?_
     rintro e w7 ⟨rfl,hE⟩;have qp:=(HB0.o.ext (HE6.o.trans hE) (by simp)).cell;have qpl:=(HB0.o.ext (HE6.o.trans hE) (by simp)).lt;have HE7:=hd hE;clear hE;go_wp2_with fail
     refine(HC6.o w7 HE7.o).mono ?_
     rintro e w8 ⟨rfl,hE⟩;have HE8:=hd (HE0.o.trans ((HE6.o.trans HE7.o).trans hE));clear hE;go_wp2_with fail
     go_ret
     exact⟨rfl,HE8.o⟩
   ·exact absurd h1 h0
  ·have HZ:=hd (HOF.o rfl);have hc0:ce=0:=HZ.o.1;have HZ2:=hd HZ.o.2;subst hc0;have HO:=hd hO;have HA:=hd hA;clear hO hA;go_wp2_with fail
   refine(HIN.o w5 HE5.o).mono ?_
   rintro e w6 ⟨hE,hcs⟩;have hs56:=hE.size;have HE6:=hd (HE5.o.trans hE);have HA6:=hd (HA.o.keep hE);have qp:=(HB0.o.ext HE6.o (by simp)).cell;have qpl:=(HB0.o.ext HE6.o (by simp)).lt;clear hE;rcases hcs with⟨h1,-⟩|⟨-,OI,vi,rfl,hOI,hAI⟩
   ·exact absurd rfl h1
   ·have HOI:=hd hOI;have HAI:=hd hAI;clear hOI hAI;have HW:=hd (work_any w6);have HC6:=hd (fun W (hW:Ext [] w6 W)=>HCK.o W (HE6.o.trans hW));have HIO:=hd (fun W (hW:Ext [] w6 W)=>instancesOf_any w4.heap.size v O W (HA6.o.keep hW) (by have:=congrArg List.length (HWK.o HO.o);rw[List.length_map] at this;rw[this];exact HKW.o HZ2.o) (by have h2:=hW.size;omega));have HSI:=hd (fun W (hW:Ext [] w6 W) v' (hv:InsAt w4.heap.size v' (wrO O) W)=>sameI_any w5.heap.size w4.heap.size vi v' OI (wrO O) W (insAt_keep HAI.o hW) hv (HKF.o HZ.o.1 HOI.o) (HKF.o HZ.o.1 (HWK.o HO.o)));have HEQ:Hd (decide (OI.map InO.key=(wrO O).map InO.key)=true):=hd (by rw[HOI.o,HWK.o HO.o];simp);rw[HEQ.o] at HSI;go_wp2_with fail
    refine HW.o.mono ?_
    rintro e w7 ⟨rfl,hE⟩;have qp:=(HB0.o.ext (HE6.o.trans hE) (by simp)).cell;have qpl:=(HB0.o.ext (HE6.o.trans hE) (by simp)).lt;have HE7:=hd hE;clear hE;go_wp2_with fail
    refine(HC6.o w7 HE7.o).mono ?_
    rintro e w8 ⟨rfl,hE⟩;have HE8:=hd (HE7.o.trans hE);clear hE;go_wp2_with fail
    refine(HIO.o w8 HE8.o).mono ?_
    rintro e w9 ⟨v',rfl,hE,hv⟩;have HE9:=hd (HE8.o.trans hE);have HV:=hd hv;clear hE hv;go_wp2_with fail
    refine(HSI.o w9 HE9.o v' HV.o).mono ?_
    rintro e wa ⟨rfl,hE⟩;have HEa:=hd (HE0.o.trans (HE6.o.trans (HE9.o.trans hE)));clear hE;go_wp2_with fail
    go_ret
    exact⟨rfl,HEa.o⟩
end Go.Proofs.YtfjdmoppfbddpaaGreatDoor
