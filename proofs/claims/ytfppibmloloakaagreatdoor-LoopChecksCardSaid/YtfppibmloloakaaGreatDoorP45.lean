import Derived.Test.YtfppibmloloakaaGreatDoorP44
namespace Go.Proofs.YtfppibmloloakaaGreatDoor
open Go.RowKit Go.Proofs.Tryz
set_option linter.all false
section
def stZ0:St:=.mk ⟨0,⟨#[]⟩,0,0,0,false,none,0,[],none,0,0,afZ0,exZ0⟩ []
def stA (s:St):Array Value:=stArr s.h s.body.length s.h.val.h s.h.val.ks.length
theorem stV_arr (s:St):stV s=.agg (stA s):=by cases s;rfl
theorem stC_arr (s:St):stC s=(stA s).toList:=by cases s;rfl
theorem stA_one (s:St):(stA s).all (·.oneCell')=true:=stArr_one ..
theorem stA_info (s:St):(Tryz.prog.info? 43).map (·.size)=some (stA s).size:=infoSt
theorem stA_size (s:St):(stA s).size=21:=rfl
theorem stC_one (s:St):∀u∈stC s,u.oneCell'=true:=fun u hu=>by
 have h:=stA_one s;rw[stC_arr] at hu;rw[Array.all_eq_true_iff_forall_mem] at h;exact h u (Array.mem_toList_iff.1 hu)
theorem st1_slice (w:World)(s:St):(Instr.buildSlice 27 1 #[(0,stV s)]).run Tryz.prog w=.ok (.slice (some ⟨w.heap.size,0,none⟩) 1 1) (w.alloc (.cells (stA s) 43)):=by
 rw[stV_arr];exact st_slice w s.h s.body.length s.h.val.h s.h.val.ks.length
def sSt (H:Nat):Spec:=⟨St,stZ0,stV,fun s w=>StA (fun b=>H<=b) 20 w s⟩
def sSt1 (H:Nat):Spec:=⟨Nat×St,(0,stZ0),fun u=>.slice (some ⟨u.1,0,none⟩) 1 1,fun u w=>H<=u.1/\Blk w u.1 43 (stA u.2)/\StA (fun b=>H<=b) 20 w u.2⟩
section
variable {H g:Nat} (hg:g<H)
include hg
theorem sSt.stays:∀y w w',Ext [g] w w'->(sSt H).V y w->(sSt H).V y w':=fun y w w' hE h=>StA.ext hE (fun x hx=>by rw[List.mem_singleton.1 hx];omega) h
theorem sSt1.stays:∀y w w',Ext [g] w w'->(sSt1 H).V y w->(sSt1 H).V y w':=fun y w w' hE h=>⟨h.1,h.2.1.ext hE (by rw[List.mem_singleton];have:=h.1;omega),StA.ext hE (fun x hx=>by rw[List.mem_singleton.1 hx];omega) h.2.2⟩
end
theorem Bld.one {w w':World}{base g pb n bc q:Nat}{bA:Option Addr}{bs:List Bf}{V:Value}{l:List St}{cnt:Int}{C:Array Value}(h:Bld w base g pb n bA bc bs V l cnt)(hE:Ext [q] w w')(hq:Blk w q 43 C)(hV:∀k,V.ownBlock=some k->k≠q)(hb:base<=q):Bld w' base g pb n bA bc bs V l cnt:=by
 obtain⟨D,hD⟩:=h.stm.blk;have h1:g≠q:=fun e=>by rw[e] at hD;exact absurd (hD.type hq) (by decide)
 have h2:pb≠q:=fun e=>by have hp:=h.blk;rw[e] at hp;exact absurd (hp.type hq) (by decide)
 exact⟨h.stm.ext hE (by rw[List.mem_singleton];exact h1) (fun x hx=>by rw[List.mem_singleton.1 hx];exact hb),h.blk.ext hE (by rw[List.mem_singleton];exact h2),h.bpb,own_ext h.buf hE fun k hk=>by rw[List.mem_singleton];exact own_apart h.buf hq (by decide) k hk,
  own_ext h.row hE fun k hk=>by rw[List.mem_singleton];exact hV k hk,h.bne,h.b9,h.bsz,h.l3⟩
structure LoS (w:World)(T:List Nat)(H base g pb n:Nat)(bA:Option Addr)(bc:Nat)(bs:List Bf)(Vz:Value)(lz:List St)(cnt:Int)(rb eb:Nat)(zr:Array Value)(C:Value->Array Value)(v:Value)(ss:List St)(wx:World):Prop where
 ext:Ext T w wx
 bld:Bld wx base g pb n bA bc bs Vz lz cnt
 res:Blk wx rb 43 zr
 blk:Blk wx eb 43 (C v)
 own:wx.ownsRow H 43 21 v ss.length (ss.flatMap stC)
 kid:∀s∈ss,StA (fun b=>H<=b/\v.ownBlock≠some b) 20 wx s
 hz:∀q,Vz.ownBlock=some q->q<H/\q≠eb
 hb:∀q,(Value.slice bA bs.length bc).ownBlock=some q->q<w.heap.size
 tg:g∈T
 rb0:w.heap.size<=rb
 eb0:rb<eb
 ebH:eb<H
 g0:g<w.heap.size
 p0:pb<w.heap.size
 hH:H<=wx.heap.size
section
variable {w wx wy:World} {T:List Nat} {H base g pb n m bc:Nat} {bA:Option Addr} {bs:List Bf} {Vz:Value} {lz:List St} {cnt:Int} {rb eb:Nat} {zr:Array Value} {C:Value->Array Value} {v:Value} {ss:List St}
theorem LoS.draw (h:LoS w T H base g pb n bA bc bs Vz lz cnt rb eb zr C v ss wx)(hE:Ext [g] wx wy)(hS:Stm wy base g m):LoS w T H base g pb m bA bc bs Vz lz cnt rb eb zr C v ss wy:=by
 have h0:=h.g0;have h1:=h.rb0;have h2:=h.eb0;have h3:=h.ebH
 exact⟨h.ext.trans (hE.mono fun x hx=>.inl (by rw[List.mem_singleton.1 hx];exact h.tg)),h.bld.draw hE hS,h.res.ext hE (by rw[List.mem_singleton];omega),h.blk.ext hE (by rw[List.mem_singleton];omega),
  own_ext h.own hE fun q hq=>by have:=own_base h.own q hq;rw[List.mem_singleton];omega,fun x hx=>StA.ext hE (fun y hy hh=>by rw[List.mem_singleton.1 hy] at hh;have:=hh.1;omega) (h.kid x hx),h.hz,h.hb,h.tg,h.rb0,h.eb0,h.ebH,h.g0,h.p0,Nat.le_trans h.hH hE.size⟩
theorem LoS.less (h:LoS w T H base g pb n bA bc bs Vz lz cnt rb eb zr C v ss wx)(hm:m<=n):LoS w T H base g pb m bA bc bs Vz lz cnt rb eb zr C v ss wx:=⟨h.ext,h.bld.less hm,h.res,h.blk,h.own,h.kid,h.hz,h.hb,h.tg,h.rb0,h.eb0,h.ebH,h.g0,h.p0,h.hH⟩
theorem LoS.bldx (h:LoS w T H base g pb n bA bc bs Vz lz cnt rb eb zr C v ss wx){S:List Nat}(hE:Ext S wx wy)(hS:∀q∈S,H<=q\/q=eb):Bld wy base g pb n bA bc bs Vz lz cnt/\Ext T w wy:=by
 have h0:=h.g0;have h1:=h.rb0;have h2:=h.eb0;have h3:=h.ebH;have hb:=h.bld.bpb;have hp:=h.p0;refine⟨?_,h.ext.step hE fun x hx=>.inr (by rcases hS x hx with e|e<;>omega)⟩
 refine⟨h.bld.stm.ext hE (fun hm=>by rcases hS _ hm with e|e<;>omega) (fun q hq=>by rcases hS _ hq with e|e<;>omega),h.bld.blk.ext hE (fun hm=>by rcases hS _ hm with e|e<;>omega),h.bld.bpb,own_ext h.bld.buf hE fun q hq hm=>?_,own_ext h.bld.row hE fun q hq hm=>?_,h.bld.bne,h.bld.b9,h.bld.bsz,h.bld.l3⟩
 ·rcases hS _ hm with e|e
  ·have:=h.hb q hq;omega
  ·exact own_apart h.bld.buf h.blk (by decide) q hq e
 ·rcases hS _ hm with e|e
  ·have:=(h.hz q hq).1;omega
  ·exact(h.hz q hq).2 e
theorem LoS.more (h:LoS w T H base g pb n bA bc bs Vz lz cnt rb eb zr C v ss wx)(hE:Ext v.ownBlock.toList wx wy){g8 c8 k:Nat}{s:St}(hC:∀a b,(C a).setIfInBounds k b=C b)
  (hO:wy.ownsRow H 43 21 (.slice (some ⟨g8,0,none⟩) (ss.length+1) c8) (ss.length+1) (ss.flatMap stC ++ stC s)) (hg8:v.ownBlock=some g8\/wx.heap.size<=g8) (hs:StA (fun b=>H<=b/\v.ownBlock≠some b) 20 wx s) :
  LoS w T H base g pb n bA bc bs Vz lz cnt rb eb zr C (.slice (some ⟨g8,0,none⟩) (ss.length+1) c8) (ss ++ [s]) (wy.setCell ⟨eb,k,none⟩ (.slice (some ⟨g8,0,none⟩) (ss.length+1) c8)):=by
 have hE2:Ext [eb] wy (wy.setCell ⟨eb,k,none⟩ (.slice (some ⟨g8,0,none⟩) (ss.length+1) c8)):=Ext.setAt (.inl (by simp)) (Ext.refl _ _);have g0:=h.g0;have h1:=h.rb0;have h2:=h.eb0;have h3:=h.ebH;have hq:∀q∈v.ownBlock.toList,H<=q:=fun q hq=>own_base h.own q (Option.mem_toList.1 hq)
 have hq8:H<=g8:=own_base hO g8 rfl;have hE3:Ext (eb :: v.ownBlock.toList) wx (wy.setCell ⟨eb,k,none⟩ (.slice (some ⟨g8,0,none⟩) (ss.length+1) c8)):=(hE.mono fun x hx=>.inl (List.mem_cons_of_mem _ hx)).trans (hE2.mono fun x hx=>.inl (by rw[List.mem_singleton.1 hx];simp));have hb:Blk wy eb 43 (C v):=h.blk.ext hE fun hm=>by have:=hq _ hm;omega
 have step:∀z,StA (fun b=>H<=b/\v.ownBlock≠some b) 20 wx z->StA (fun b=>H<=b/\(Value.slice (some ⟨g8,0,none⟩) (ss.length+1) c8).ownBlock≠some b) 20 (wy.setCell ⟨eb,k,none⟩ (.slice (some ⟨g8,0,none⟩) (ss.length+1) c8)) z:=fun z hz=>by
  have z1:=StA.mono (Q:=fun b=>H<=b/\b≠g8/\v.ownBlock≠some b) (fun b hb hh=>⟨hh.1,(by rintro rfl;rcases hg8 with e|e;exact hh.2 e;omega),hh.2⟩) (Nat.le_refl _) hz;have z2:=StA.ext hE (fun y hy hh=>hh.2.2 (Option.mem_toList.1 hy)) z1;have z3:=StA.ext hE2 (fun y hy hh=>by rw[List.mem_singleton.1 hy] at hh;have:=hh.1;omega) z2;exact StA.mono (fun b _ hh=>⟨hh.1,fun e=>by cases e;exact hh.2.1 rfl⟩) (Nat.le_refl _) z3
 obtain⟨hbl,hex⟩:=h.bldx hE3 fun q hqq=>by
  rcases List.mem_cons.1 hqq with e|e
  ·exact .inr e
  ·exact .inl (hq q e)
 refine⟨hex,hbl,(h.res.ext hE (fun hm=>by have:=hq _ hm;omega)).ext hE2 (by rw[List.mem_singleton];omega),by have:=hb.set_ k (.slice (some ⟨g8,0,none⟩) (ss.length+1) c8);rw[hC] at this;exact this,?_,fun x hx=>?_,h.hz,h.hb,h.tg,h.rb0,h.eb0,h.ebH,h.g0,h.p0,Nat.le_trans h.hH hE3.size⟩
 ·rw[List.length_append,List.flatMap_append];have e:List.flatMap stC [s]=stC s:=by simp
  rw[e];exact own_ext hO hE2 fun q hqq=>by have:=own_base hO q hqq;rw[List.mem_singleton];omega
 ·rcases List.mem_append.1 hx with hx|hx
  ·exact step x (h.kid x hx)
  ·rw[List.mem_singleton.1 hx];exact step s hs
theorem LoS.put (h:LoS w T H base g pb n bA bc bs Vz lz cnt rb eb zr C v ss wx){C':Value->Array Value}(k:Nat)(u:Value)(hC:(C v).setIfInBounds k u=C' v):LoS w T H base g pb n bA bc bs Vz lz cnt rb eb zr C' v ss (wx.setCell ⟨eb,k,none⟩ u):=by
 have hE:Ext [eb] wx (wx.setCell ⟨eb,k,none⟩ u):=Ext.setAt (.inl (by simp)) (Ext.refl _ _);have g0:=h.g0;have h1:=h.rb0;have h2:=h.eb0;have h3:=h.ebH;obtain⟨hbl,hex⟩:=h.bldx hE fun q hqq=>.inr (List.mem_singleton.1 hqq)
 exact⟨hex,hbl,h.res.ext hE (by rw[List.mem_singleton];omega),hC ▸ h.blk.set_ k u,own_ext h.own hE fun q hqq=>by have:=own_base h.own q hqq;rw[List.mem_singleton];omega,
  fun x hx=>StA.ext hE (fun y hy hh=>by rw[List.mem_singleton.1 hy] at hh;have:=hh.1;omega) (h.kid x hx),h.hz,h.hb,h.tg,h.rb0,h.eb0,h.ebH,h.g0,h.p0,Nat.le_trans h.hH hE.size⟩
theorem LoS.body (h:LoS w T H base g pb n bA bc bs Vz lz cnt rb eb zr C v ss wx)(hl:ss.length<=20){A:Option Addr}{n0 c:Nat}(hv:v=.slice A n0 c):n0=ss.length/\SeqA (fun b=>H<=b) 20 wx A 21 stC ss/\∀s∈ss,StA (fun b=>H<=b) 20 wx s:=by
 subst hv;have hO:=h.own;obtain⟨A',c',e,-,-⟩:=own_form hO;cases e
 exact⟨rfl,(SeqA.own (P:=fun b=>H<=b) stC_len hO hl (by decide) (fun q _ h1 _=>h1)).2,fun s hs=>StA.mono (fun b _ hb=>hb.1) (Nat.le_refl _) (h.kid s hs)⟩
end
end
section
attribute [local irreducible] relAt relAtU
def BD (d:Nat):Nat:=10000000000*20 ^ d
theorem BD_succ (d:Nat):BD (d+1)=20*BD d:=by unfold BD;rw[Nat.pow_succ];omega
theorem BD_pos (d:Nat):10000000000<=BD d:=by unfold BD;have:=Nat.one_le_pow d 20 (by omega);omega
structure After (w:World)(base g pb n:Nat)(bA:Option Addr)(bc:Nat)(bs:List Bf)(V:Value)(l:List St)(V':Value)(cnt':Int)(w':World):Prop where
 ext:Ext (g :: pb :: V.ownBlock.toList) w w'
 bld:Bld w' base g pb n bA bc bs V' l cnt'
 row:∀q,V'.ownBlock=some q->V.ownBlock=some q\/w.heap.size<=q
def Fr (H:Nat)(V:Value)(b:Nat):Prop:=H<=b/\V.ownBlock≠some b
def BodP (d base g pb n:Nat)(bA:Option Addr)(bc:Nat)(bs:List Bf)(V:Value)(l:List St)(w:World)(e:Ending)(w':World):Prop:=
 ∃(A:Option Addr) (c:Nat) (ss:List St) (V':Value) (cnt':Int),e=.returned (.slice A ss.length c)/\SeqA (Fr w.heap.size V') 20 w' A 21 stC ss/\(∀s∈ss,StA (Fr w.heap.size V') (20+d) w' s)/\After w base g pb n bA bc bs V l V' cnt' w'
def LooP (d base g pb n:Nat)(bA:Option Addr)(bc:Nat)(bs:List Bf)(V:Value)(l:List St)(w:World)(e:Ending)(w':World):Prop:=
 ∃(s:St) (V':Value) (cnt':Int),e=.returned (stV s)/\StA (Fr w.heap.size V') (20+d) w' s/\After w base g pb n bA bc bs V l V' cnt' w'
def BodC (d:Nat):Prop:=∀(base g pb n bc:Nat) (bA:Option Addr) (bs:List Bf) (V:Value) (l:List St) (cnt:Int) (many:Nat) (w:World),many<=3->l.length+d<=3->Bld w base g pb (n+BD d) bA bc bs V l cnt->Calls Tryz.prog 104 #[.pointer (some ⟨pb,0,none⟩),.int .i64 d,.int .i64 many] w (BodP d base g pb n bA bc bs V l w)
def loHd (nm:ByteArray)(lo hi step:Int):SH:=⟨1,nm,lo,hi,step,false,none,0,[],none,0,0,afZ,.mk exZ []⟩
def sNew (H:Nat):Spec:=⟨Nat,0,fun b=>.pointer (some ⟨b,0,none⟩),fun b w=>H<=b/\Blk w b 43 zSt⟩
theorem sNew.stays {H g:Nat}(hg:g<H):∀y w w',Ext [g] w w'->(sNew H).V y w->(sNew H).V y w':=fun(y:Nat) w w' hE h=>⟨h.1,h.2.ext hE (fun hm=>by have h1:y=g:=List.mem_singleton.1 hm;have h2:H<=y:=h.1;omega)⟩
def loA (nm:ByteArray)(lo hi step:Int)(vec:Bool)(v:Value):Array Value:=#[.int .i64 1,.string nm,.int .i64 lo,.int .i64 hi,.int .i64 step,.bool vec,.slice none 0 0,v,.int .i64 0,.int .i64 0,.slice none 0 0,.int .i64 0,.int .i64 0,.int .i64 0,.int .i64 0,.int .i64 0,.int .i64 0,.int .i64 0,.int .i64 0,.slice none 0 0,.slice none 0 0]
theorem st0_slice (w:World):(Instr.buildSlice 27 1 #[(0,.agg zSt)]).run Tryz.prog w=.ok (.slice (some ⟨w.heap.size,0,none⟩) 1 1) (w.alloc (.cells zSt 43)):=by kernel_rfl
structure LoM (d:Nat)(w:World)(T:List Nat)(H base g pb n:Nat)(bA:Option Addr)(bc:Nat)(bs:List Bf)(V:Value)(lz:List St)(rb eb:Nat)(ar:Value->Array Value)(A:Option Addr)(c:Nat)(ss:List St)(V':Value)(cnt':Int)(wx:World):Prop where
 ext:Ext T w wx
 bld:Bld wx base g pb n bA bc bs V' lz cnt'
 res:Blk wx rb 43 zSt
 blk:Blk wx eb 43 (ar (.slice A ss.length c))
 seq:SeqA (Fr H V') 20 wx A 21 stC ss
 kid:∀s∈ss,StA (Fr H V') (20+d) wx s
 row:∀q,V'.ownBlock=some q->(V.ownBlock=some q\/w.heap.size<=q)/\q≠eb/\q≠rb
set_option maxHeartbeats 16000000 in
set_option maxRecDepth 100000 in
theorem gloop_any (d:Nat)(IH:BodC d)(base g pb n bc:Nat)(bA:Option Addr)(bs:List Bf)(V:Value)(l:List St)(cnt:Int)(w:World)(hl:l.length+(d+1)<=3)(h:Bld w base g pb (n+BD d+12000000000) bA bc bs V l cnt) :
  Calls Tryz.prog 154 #[.pointer (some ⟨pb,0,none⟩),.int .i64 ((d+1:Nat):Int)] w (LooP (d+1) base g pb n bA bc bs V l w):=by
 obtain⟨VA,vc,rfl,-,-⟩:=own_form h.row;have HD:=hd h;have HIH:=hd IH;have HL:=hd hl;have HBB:Hd (base<=w.heap.size):=hd (by have:=h.bpb;have:=h.blk.lt;omega);have HPG:=hd h.pg;clear h IH hl;generalize hd1:((d+1:Nat):Int)=D1;have hdd:D1-1=(d:Int):=by omega
 clear hd1;have hd2:d<=2:=by have:=HL.o;omega
 go_enter Tryz.func154,Tryz.ntmps154
 go_upto_region 1 with fail
 have HE1:=hd ((Ext.refl [g] w).alloc (.cells zSt 43));have HR1:=hd (Blk.new w 43 zSt);have HD1:=hd (HD.o.grow ((Ext.refl [] w).alloc (.cells zSt 43)));unfold zSt at HE1 HR1 HD1;generalize World.alloc w _=w1 at *;change Hd (Blk w1 w.heap.size 43 zSt) at HR1;generalize hrb:w.heap.size=rb at *;have HRB:=hd hrb;have HGB:Hd (g<rb):=hd (by rw[<-hrb];exact HD.o.stm.lt);have HPB:Hd (pb<rb):=hd (by rw[<-hrb];exact HD.o.blk.lt);clear hrb;refine rgC 12 1 base g (n+BD d+11000000000) [(4,sNums 5 g),(5,sAny),(10,sNums 4 g),(11,sAny)] (Stays.cons sNums.stays (Stays.cons sAny.stays (Stays.cons sNums.stays (Stays.cons sAny.stays Stays.nil)))) (HD1.o.stm.less (by omega)) ?_
 simp only[List.take_succ_cons,List.take_zero,List.drop_succ_cons,List.drop_zero]
 repeat
  refine relAt_det rfl rfl ?_
  apply Exists.intro
  refine⟨fun wr nr hJ=>?_,?_⟩
  ·have hB:=HD1.o.draw hJ.1 hJ.2;have qp:=hB.blk.cell;have qpl:=hB.blk.lt;unfold bldA at qp;clear hB;clear hJ;(go_simp;try go_bits)
   first|rfl|exact⟨rfl,rfl⟩
  simp only[Act.put,List.setIfInBounds_toArray,List.set_cons_succ,List.set_cons_zero]
 refine rel_newC (sNums 5 g) rfl rfl ?_ ?_
 ·intro wr hE hf;refine⟨wr.heap.size,.cells (Nums [0,0,0,1,-1]) 3,?_,[0,0,0,1,-1],rfl,Blk.new _ _ _,by have:=hE.size;have:=HD1.o.stm.lt;omega⟩
  go_simp;try first|rfl|exact⟨rfl,rfl⟩
 intro (b1:Nat);simp only[Act.put,List.setIfInBounds_toArray,List.set_cons_succ,List.set_cons_zero];dsimp only[sNums];refine rel_callC sAny rfl rfl ?_ ?_
 ·apply Exists.intro
  apply Exists.intro
  refine⟨fun wr=>?_,fun wr m hE hS hm hf=>?_⟩
  ·go_simp
   first|exact⟨rfl,rfl⟩|rfl
  ·obtain⟨xs,hx,hB,hbg⟩:=(after_get hf 4 (by kernel_rfl):(sNums 5 g).V b1 wr);have hp:=pick_any base g m b1 5 3 xs wr hS hB hbg (by omega);rw[hx] at hp;refine hp.mono ?_
   rintro e w' ⟨r,rfl,_,hE',hS'⟩;exact⟨r,rfl,trivial,hE',hS'⟩
 intro (lo:Int);simp only[Act.put,List.setIfInBounds_toArray,List.set_cons_succ,List.set_cons_zero];dsimp only[sAny]
 repeat
  refine relAt_det rfl rfl ?_
  apply Exists.intro
  refine⟨fun wr nr hJ=>?_,?_⟩
  ·have hB:=HD1.o.draw hJ.1 hJ.2;have qp:=hB.blk.cell;have qpl:=hB.blk.lt;unfold bldA at qp;clear hB;clear hJ;(go_simp;try go_bits)
   first|rfl|exact⟨rfl,rfl⟩
  simp only[Act.put,List.setIfInBounds_toArray,List.set_cons_succ,List.set_cons_zero]
 refine rel_newC (sNums 4 g) rfl rfl ?_ ?_
 ·intro wr hE hf;refine⟨wr.heap.size,.cells (Nums [1,1,1,2]) 3,?_,[1,1,1,2],rfl,Blk.new _ _ _,by have:=hE.size;have:=HD1.o.stm.lt;omega⟩
  go_simp;try first|rfl|exact⟨rfl,rfl⟩
 intro (b2:Nat);simp only[Act.put,List.setIfInBounds_toArray,List.set_cons_succ,List.set_cons_zero];dsimp only[sNums];refine rel_callC sAny rfl rfl ?_ ?_
 ·apply Exists.intro
  apply Exists.intro
  refine⟨fun wr=>?_,fun wr m hE hS hm hf=>?_⟩
  ·go_simp
   first|exact⟨rfl,rfl⟩|rfl
  ·obtain⟨xs,hx,hB,hbg⟩:=(after_get hf 10 (by kernel_rfl):(sNums 4 g).V b2 wr);have hp:=pick_any base g m b2 4 3 xs wr hS hB hbg (by omega);rw[hx] at hp;refine hp.mono ?_
   rintro e w' ⟨r,rfl,_,hE',hS'⟩;exact⟨r,rfl,trivial,hE',hS'⟩
 intro (step:Int);simp only[Act.put,List.setIfInBounds_toArray,List.set_cons_succ,List.set_cons_zero];dsimp only[sAny];refine relAt_nil (fun w2 hJ hF=>?_)
 have HD2:=hd ((HD1.o.draw hJ.1 hJ.2).less (m:=n+BD d+11000000000) (by omega));have HE2:=hd (HE1.o.trans hJ.1);have HR2:=hd (HR1.o.ext hJ.1 (by rw[List.mem_singleton];have:=HGB.o;omega));clear hJ hF HD1 HE1 HR1;go_upto_region 2 with fail
 have hrw:=HR2.o.lt;generalize hH:w2.heap.size=H2 at *;have HH2:=hd hH;have HGH:Hd (g<H2):=hd (by have:=HGB.o;omega);clear hH;refine rgC 20 1 base g (n+BD d+10900000000) [(14,sNums 7 g),(15,sAny),(19,sNew H2)] (Stays.cons sNums.stays (Stays.cons sAny.stays (Stays.cons (sNew.stays HGH.o) Stays.nil))) (HD2.o.stm.less (by omega)) ?_
 simp only[List.take_succ_cons,List.take_zero,List.drop_succ_cons,List.drop_zero]
 repeat
  refine relAt_det rfl rfl ?_
  apply Exists.intro
  refine⟨fun wr nr hJ=>?_,?_⟩
  ·have hB:=HD2.o.draw hJ.1 hJ.2;have qp:=hB.blk.cell;have qpl:=hB.blk.lt;unfold bldA at qp;clear hB;clear hJ;(go_simp;try go_bits)
   first|rfl|exact⟨rfl,rfl⟩
  simp only[Act.put,List.setIfInBounds_toArray,List.set_cons_succ,List.set_cons_zero]
 refine rel_newC (sNums 7 g) rfl rfl ?_ ?_
 ·intro wr hE hf;refine⟨wr.heap.size,.cells (Nums [0,1,2,3,4,5,6]) 3,?_,[0,1,2,3,4,5,6],rfl,Blk.new _ _ _,by have:=hE.size;have:=HD2.o.stm.lt;omega⟩
  go_simp;try first|rfl|exact⟨rfl,rfl⟩
 intro (b3:Nat);simp only[Act.put,List.setIfInBounds_toArray,List.set_cons_succ,List.set_cons_zero];dsimp only[sNums];refine rel_callC sAny rfl rfl ?_ ?_
 ·apply Exists.intro
  apply Exists.intro
  refine⟨fun wr=>?_,fun wr m hE hS hm hf=>?_⟩
  ·go_simp
   first|exact⟨rfl,rfl⟩|rfl
  ·obtain⟨xs,hx,hB,hbg⟩:=(after_get hf 14 (by kernel_rfl):(sNums 7 g).V b3 wr);have hp:=pick_any base g m b3 7 3 xs wr hS hB hbg (by omega);rw[hx] at hp;refine hp.mono ?_
   rintro e w' ⟨r,rfl,_,hE',hS'⟩;exact⟨r,rfl,trivial,hE',hS'⟩
 intro (r3:Int);simp only[Act.put,List.setIfInBounds_toArray,List.set_cons_succ,List.set_cons_zero];dsimp only[sAny]
 repeat
  refine relAt_det rfl rfl ?_
  apply Exists.intro
  refine⟨fun wr nr hJ=>?_,?_⟩
  ·skip
   clear hJ;(go_simp;try go_bits)
   first|rfl|exact⟨rfl,rfl⟩
  simp only[Act.put,List.setIfInBounds_toArray,List.set_cons_succ,List.set_cons_zero]
 generalize hhi:wrap64 (lo+r3)=hi;clear hhi;generalize hnm:Utf8.encode _=nm;have HNM:Hd (nm.size<=20):=hd (by rw[<-hnm];exact Nat.le_trans (encode_size_le _) (by omega));clear hnm;refine rel_newC (sNew H2) rfl rfl ?_ ?_
 ·intro wr hE hf;refine⟨wr.heap.size,.cells zSt 43,?_,by have:=hE.size;have:=HH2.o;show H2<=wr.heap.size;omega,Blk.new _ _ _⟩
  go_simp;try first|rfl|exact⟨rfl,rfl⟩
 intro (eb:Nat);simp only[Act.put,List.setIfInBounds_toArray,List.set_cons_succ,List.set_cons_zero];dsimp only[sNew];refine relAt_nil (fun w3 hJ hF=>?_)
 have hv:(sNew H2).V eb w3:=hF 19;have HV:=hd hv;have HD3:=hd ((HD2.o.draw hJ.1 hJ.2).less (m:=n+BD d+10900000000) (by omega));have HE3:=hd (HE2.o.trans hJ.1);have HR3:=hd (HR2.o.ext hJ.1 (by rw[List.mem_singleton];have:=HGB.o;omega));clear hJ hF hv HD2 HE2 HR2;have HON:=hd (show(loA nm lo hi step false (.slice none 0 0)).all (·.oneCell')=true from stArr_one (loHd nm lo hi step) 0 exZ 0);have HSI:=hd (show(Tryz.prog.info? 43).map (·.size)=some (loA nm lo hi step false (.slice none 0 0)).size from infoSt);have HZS:=hd (show zSt.size=(loA nm lo hi step false (.slice none 0 0)).size from rfl)
 go_upto_region 3 with(
             refine wpList_store_wide rfl 43 _ _ rfl eb (loA nm lo hi step false (.slice none 0 0)) zSt 43 rfl rfl HV.o.2 HSI.o HZS.o HON.o ?_
             intro w4 hB4 hE4;have HB4:=hd hB4;have HE4:=hd hE4;clear hB4 hE4)
 have HHE:Hd (H2<=eb):=hd HV.o.1;have hgb:=HGB.o;have hpb:=HPB.o;have HD4:=hd (HD3.o.far HE4.o HD.o (fun q hq=>by rw[List.mem_singleton.1 hq];have:=HHE.o;have:=HRB.o;omega));have HX4:Hd (Ext (g :: pb :: (Value.slice VA l.length vc).ownBlock.toList) w w4):=hd ((HE3.o.mono fun x hx=>.inl (by rw[List.mem_singleton.1 hx];simp)).step HE4.o fun x hx=>.inr (by rw[List.mem_singleton.1 hx];have:=HHE.o;have:=HRB.o;omega));have HR4:=hd (HR3.o.ext HE4.o (by rw[List.mem_singleton];have:=HHE.o;omega));clear HE3 HR3 HV HE4 HD3;have qp:=HD4.o.blk.cell;have qpf:=HD4.o.blk.frozen;have qpl:=HD4.o.blk.lt;unfold bldA at qp;have HD5:=hd (HD4.o.cnt' (wrap64 (cnt+1)));have HE5:=hd (Ext.setAt (b:=pb) (i:=4) (u:=.int .i64 (wrap64 (cnt+1))) (.inl (by simp)) (Ext.refl [pb] w4));go_upto_region 4 with fail
 generalize World.setCell w4 _ _=w5 at *;have HB5:=hd (HB4.o.ext HE5.o (by rw[List.mem_singleton];have:=HHE.o;omega));have HR5:=hd (HR4.o.ext HE5.o (by rw[List.mem_singleton];omega));have HX5:=hd (HX4.o.trans (HE5.o.mono fun x hx=>.inl (by rw[List.mem_singleton.1 hx];simp)));clear qp qpf qpl HD4 HB4 HR4 HX4 HE5;generalize wrap64 (cnt+1)=cnt2 at *;have HVP:=hd HD5.o.vpb;have HSZ5:Hd (w.heap.size<=w5.heap.size):=hd HX5.o.size;have HL2:Hd (l.length<=2):=hd (by have:=HL.o;omega);have HSC:=hd (show stC (.mk (loHd nm lo hi step) [])=(loA nm lo hi step false (.slice none 0 0)).toList from rfl);have HS21:=hd (show(loA nm lo hi step false (.slice none 0 0)).size=21 from rfl)
 have HEBN:Hd (eb∉pb :: (Value.slice VA l.length vc).ownBlock.toList):=hd (by
  intro hm;rcases List.mem_cons.1 hm with e|e
  ·have:=HHE.o;omega
  ·have:=(HD.o.row.lt eb (Option.mem_toList.1 e)).2;have:=HHE.o;have:=HRB.o;omega)
 refine rgP base pb g bs.length bc bA VA vc l cnt2 rfl (fun i hi oi ho=>by rcases hi with rfl|rfl|rfl<;>(cases ho;rfl)) HD5.o.row HD5.o.blk ?_
 simp only[List.take_succ_cons,List.take_zero,List.drop_succ_cons,List.drop_zero];have hpw:pb<w5.heap.size:=HD5.o.blk.lt
 repeat
  refine relAt_detU rfl rfl ?_
  apply Exists.intro
  refine⟨fun wr nr hg hJ=>?_,?_⟩
  ·clear hg;clear hJ;(go_simp;try go_bits)
   first|rfl|exact⟨rfl,rfl⟩
  simp only[Act.put,List.setIfInBounds_toArray,List.set_cons_succ,List.set_cons_zero]
 refine relAt_detU rfl rfl ?_
 apply Exists.intro
 refine⟨fun wr nr hg hJ=>?_,?_⟩
 ·have hB:=hJ.blk (hg.later 12 (by kernel_rfl));have qp:=hB.cell;have qpl:=hB.lt;unfold bldA at qp;clear hB hg;clear hJ;(go_simp;try go_bits)
  first|rfl|exact⟨rfl,rfl⟩
 simp only[Act.put,List.setIfInBounds_toArray,List.set_cons_succ,List.set_cons_zero];refine relAt_detU rfl rfl ⟨.agg (loA nm lo hi step false (.slice none 0 0)),fun wr nr hg hJ=>?_,?_⟩
 ·exact exec_load_wide 43 _ rfl eb 0 rfl (loA nm lo hi step false (.slice none 0 0)) (HB5.o.ext hJ.ext HEBN.o).wide _ Tryz.underlying43 rfl HSI.o
 simp only[Act.put,List.setIfInBounds_toArray,List.set_cons_succ,List.set_cons_zero]
 repeat
  refine relAt_detU rfl rfl ?_
  apply Exists.intro
  refine⟨fun wr nr hg hJ=>?_,?_⟩
  ·clear hg;clear hJ;(go_simp;try go_bits)
   first|rfl|exact⟨rfl,rfl⟩
  simp only[Act.put,List.setIfInBounds_toArray,List.set_cons_succ,List.set_cons_zero]
 refine relAt_valueU (sFix (.slice (some ⟨w5.heap.size,0,none⟩) 1 1)) rfl rfl (fun wr nr hg hJ hf=>?_) ?_
 ·obtain⟨h1,h2,h3⟩:=hJ.make hg.mine;refine⟨(),_,?_,trivial,h2,h3⟩
  rw[<-h1];refine exec_buildSlice rfl _ wr _ _ (.agg zSt) ?_ ?_
  ·rfl
  ·exact st0_slice wr
 rintro⟨⟩;simp only[Act.put,List.setIfInBounds_toArray,List.set_cons_succ,List.set_cons_zero];dsimp only[sFix];refine relAt_valueU (sV7 base (.slice VA l.length vc) l w5.heap.size) rfl rfl (fun wr nr hg hJ hf=>?_) ?_
 ·obtain⟨g8,c8,w',h1,h2,h3,h4⟩:=hJ.app 27 hg.mine (hg.done 6 (by kernel_rfl)) (hg.later 12 (by kernel_rfl)) HL2.o (by have:=HBB.o;have:=HRB.o;have:=HSZ5.o;omega) HVP.o hpw;refine⟨(g8,c8),w',?_,h2,h3,h4⟩
  refine exec_append rfl _ wr w' _ _ _ ?_ ?_ h1
  ·rfl
  ·rfl
 rintro⟨g8,c8⟩;simp only[Act.put,List.setIfInBounds_toArray,List.set_cons_succ,List.set_cons_zero];dsimp only[sV7];have hnn:(l.length:Int)<(l.length:Int)+1:=by omega
 repeat
  refine relAt_detU rfl rfl ?_
  apply Exists.intro
  refine⟨fun wr nr hg hJ=>?_,?_⟩
  ·clear hg;clear hJ;(go_simp;try go_bits)
   first|rfl|exact⟨rfl,rfl⟩
  simp only[Act.put,List.setIfInBounds_toArray,List.set_cons_succ,List.set_cons_zero]
 refine relAt_sayU sUn rfl rfl (fun _=>rfl) (fun wr nr hg hJ hf=>?_) ?_
 ·have hv:(sV7 base (.slice VA l.length vc) l w5.heap.size).V (g8,c8) wr:=after_get hf 7 (by kernel_rfl);obtain⟨C,h1,h2,h3,h4⟩:=hJ.lay (hg.done 7 (by kernel_rfl)) (hg.done 6 (by kernel_rfl)) hv (.mk (loHd nm lo hi step) []) HVP.o hpw (Nat.le_refl _);refine⟨(),_,?_,trivial,h3,h4⟩
  rw[HSC.o];refine exec_store_mid rfl _ wr g8 (l.length*21) (loA nm lo hi step false (.slice none 0 0)) C 43 ?_ ?_ h1 (by rw[HS21.o];exact h2) HSI.o HON.o
  ·rfl
  ·rfl
 rintro⟨⟩;simp only[Act.put,List.setIfInBounds_toArray,List.set_cons_succ,List.set_cons_zero];dsimp only[sUn]
 repeat
  refine relAt_detU rfl rfl ?_
  apply Exists.intro
  refine⟨fun wr nr hg hJ=>?_,?_⟩
  ·clear hg;clear hJ;(go_simp;try go_bits)
   first|rfl|exact⟨rfl,rfl⟩
  simp only[Act.put,List.setIfInBounds_toArray,List.set_cons_succ,List.set_cons_zero]
 refine relAt_sayU (sV12 base (.slice VA l.length vc) l w5.heap.size pb g bA bs.length bc cnt2) rfl rfl (fun _=>rfl) (fun wr nr hg hJ hf=>?_) ?_
 ·have hv:(sV7 base (.slice VA l.length vc) l w5.heap.size).V (g8,c8) wr:=after_get hf 7 (by kernel_rfl);have h12:=hg.mine;obtain⟨h1,h2,h3,h4⟩:=hJ.ptr (hg.done 7 (by kernel_rfl)) (hg.done 6 (by kernel_rfl)) h12 hv (.slice (some ⟨g8,0,none⟩) (l.length+1) c8) (pshA g bA bs.length bc l.length cnt2 (g8,c8)) rfl;refine⟨(g8,c8),_,?_,⟨h1,h2⟩,h3,h4⟩
  have hB:=hJ.blk h12;have qp:=hB.cell;have qpf:=hB.frozen;have qpl:=hB.lt;unfold bldA at qp;clear hB hv h1 h2 h3 h4 hJ hf hg;go_simp
 rintro⟨g9,c9⟩;simp only[Act.put,List.setIfInBounds_toArray,List.set_cons_succ,List.set_cons_zero];dsimp only[sV12];refine relAt_nilU (fun wz r13 hr hJ hF=>?_)
 have hz:(sV12 base (.slice VA l.length vc) l w5.heap.size pb g bA bs.length bc cnt2).V (g9,c9) wz:=hF 12;have HEZ:=hd hJ.ext;obtain⟨s9,hbz⟩:=HD5.o.push HL2.o HEZ.o hz.1 hz.2;have HDZ:=hd hbz;have HV9:=hd hz.2.1;dsimp only at HDZ HV9;clear hJ hF hr hz hbz;have hg0:g<w.heap.size:=by have:=HRB.o;omega
 have hp0:pb<w.heap.size:=by have:=HRB.o;omega
 have heb5:=HB5.o.lt
 have HLS:Hd (LoS w (g :: pb :: (Value.slice VA l.length vc).ownBlock.toList) wz.heap.size base g pb (n+BD d+10900000000) bA bc bs (.slice (some ⟨g9,0,none⟩) (l.length+1) c9) (l ++ [s9]) cnt2 rb eb zSt (loA nm lo hi step false) (.slice none 0 0) [] wz):=hd (by
  refine⟨HX5.o.trans (HEZ.o.mono fun x hx=>.inl (List.mem_cons_of_mem _ hx)),HDZ.o,HR5.o.ext HEZ.o (fun hm=>?_),HB5.o.ext HEZ.o HEBN.o,own_none _ _ _ _,by simp,fun q hq=>⟨(HDZ.o.row.lt q hq).2,fun e=>?_⟩,fun q hq=>(HD.o.buf.lt q hq).2,by simp,Nat.le_of_eq HRB.o,by have:=HHE.o;omega,by have:=HEZ.o.size;omega,hg0,hp0,Nat.le_refl _⟩
  ·rcases List.mem_cons.1 hm with e|e
   ·omega
   ·have:=(HD.o.row.lt rb (Option.mem_toList.1 e)).2;have:=HRB.o;omega
  ·have hq9:q=g9:=by cases hq;rfl
   rcases HV9.o with e1|e1
   ·exact HEBN.o (by rw[<-e,hq9];exact List.mem_cons_of_mem _ (Option.mem_toList.2 e1))
   ·omega)
 have HRW:Hd (∀q,(Value.slice (some ⟨g9,0,none⟩) (l.length+1) c9).ownBlock=some q->(Value.slice VA l.length vc).ownBlock=some q\/w.heap.size<=q):=hd fun q hq=>by
  have hq9:q=g9:=by cases hq;rfl
  rcases HV9.o with e|e
  ·exact .inl (by rw[hq9];exact e)
  ·exact .inr (by have:=HSZ5.o;omega)
 have HVR:Hd (∀q,(Value.slice (some ⟨g9,0,none⟩) (l.length+1) c9).ownBlock=some q->q≠rb):=hd fun q hq=>by
  have hq9:q=g9:=by cases hq;rfl
  rcases HV9.o with e|e
  ·have:=(HD.o.row.lt g9 e).2;have:=HRB.o;omega
  ·have:=HR5.o.lt;omega
 clear HX5 HR5 HB5 HDZ HEZ HD5 HSZ5;have hHz:rb<wz.heap.size:=HLS.o.res.lt;have HHZ:Hd (wz.heap.size<=wz.heap.size):=hd (Nat.le_refl _);generalize hHzz:wz.heap.size=Hz at *;have qp:=HLS.o.bld.blk.cell;have qpl:=HLS.o.bld.blk.lt;unfold bldA at qp;go_upto_if 61 with(go_at_call 13;refine(flip_any base g (n+BD d+10800000000) 5 _ (HLS.o.bld.stm.less (by omega)) (by omega)).mono ?_;rintro e w6 ⟨fl,rfl,hE,hS⟩)
 have HL6:=hd (HLS.o.draw hE hS);clear hE hS HLS qp qpl;go_cut [] (fun wx=>∃(vec:Bool) (A:Option Addr) (c:Nat) (ss:List St) (V':Value) (cnt':Int),Hd (LoM d w (g :: pb :: (Value.slice VA l.length vc).ownBlock.toList) Hz base g pb n bA bc bs (.slice VA l.length vc) (l ++ [s9]) rb eb (loA nm lo hi step vec) A c ss V' cnt' wx))
 case first=>
  cases fl
  ·skip
   go_wp2_with fail
   refine(HIH.o base g pb n bc bA bs _ (l ++ [s9]) cnt2 3 w6 (by omega) (by have:=HL.o;simp;omega) (HL6.o.bld.less (by omega))).mono ?_
   rintro e w7 ⟨A,c,ss,V',cnt',rfl,hq,hs,hA⟩;have hHw:Hz<=w6.heap.size:=HL6.o.hH;have hebz:=HL6.o.ebH;have hvz:=HL6.o.hz
   have hebn:eb∉g :: pb :: (Value.slice (some ⟨g9,0,none⟩) (l.length+1) c9).ownBlock.toList:=fun hm=>by
    rcases List.mem_cons.1 hm with e|hm
    ·have:=HHE.o;omega
    ·rcases List.mem_cons.1 hm with e|hm
     ·have:=HHE.o;omega
     ·exact(hvz _ (Option.mem_toList.1 hm)).2 rfl
   have HB7:=hd (HL6.o.blk.ext hA.ext hebn)
   have HR7:=hd (HL6.o.res.ext hA.ext (fun hm=>by
    rcases List.mem_cons.1 hm with e|hm
    ·omega
    ·rcases List.mem_cons.1 hm with e|hm
     ·omega
     ·exact HVR.o _ (Option.mem_toList.1 hm) rfl))
   have HX7:Hd (Ext (g :: pb :: (Value.slice VA l.length vc).ownBlock.toList) w w7):=hd (HL6.o.ext.step hA.ext fun x hx=>by
    rcases List.mem_cons.1 hx with e|hx
    ·exact .inl (by rw[e];simp)
    ·rcases List.mem_cons.1 hx with e|hx
     ·exact .inl (by rw[e];simp)
     ·exact(HRW.o x (Option.mem_toList.1 hx)).imp (fun e=>List.mem_cons_of_mem _ (List.mem_cons_of_mem _ (Option.mem_toList.2 e))) id)
   have HQ7:=hd hq;have HS7:=hd hs;have HA7:=hd hA.bld
   have HRR:Hd (∀q,V'.ownBlock=some q->((Value.slice VA l.length vc).ownBlock=some q\/w.heap.size<=q)/\q≠eb/\q≠rb):=hd fun q hq=>by
    rcases hA.row q hq with e|e
    ·exact⟨HRW.o q e,(hvz q e).2,HVR.o q e⟩
    ·exact⟨.inr (by have:=HL6.o.ext.size;omega),by omega,by omega⟩
   clear hq hs hA hebn hvz;have qe:=HB7.o.cell;have qef:=HB7.o.frozen;have qel:=HB7.o.lt;unfold loA at qe;have HE8:=hd (Ext.setAt (b:=eb) (i:=7) (u:=.slice A ss.length c) (.inl (by simp)) (Ext.refl [eb] w7));have HB8:=hd (HB7.o.set_' 7 (.slice A ss.length c) (loA nm lo hi step false (.slice A ss.length c)) rfl);have heb0:w.heap.size<=eb:=by have:=HRB.o;have:=HHE.o;omega
   go_wp2_with fail
   go_meet
   have hPP:∀b,Fr w6.heap.size V' b->Fr Hz V' b:=fun b hb=>⟨by have:=hb.1;omega,hb.2⟩
   have hne:∀x∈[eb],¬Fr Hz V' x:=fun x hx hh=>by rw[List.mem_singleton.1 hx] at hh;have:=hh.1;omega
   refine⟨false,A,c,ss,V',cnt',hd ⟨HX7.o.step HE8.o fun x hx=>.inr (by rw[List.mem_singleton.1 hx];exact heb0),HA7.o.one HE8.o HB7.o (fun k hk=>(HRR.o k hk).2.1) (by have:=HBB.o;have:=HRB.o;omega),HR7.o.ext HE8.o (by rw[List.mem_singleton];have:=HHE.o;omega),HB8.o,
    SeqA.ext (SeqA.mono HQ7.o (fun b _ hb=>hPP b hb) (Nat.le_refl _)) HE8.o hne,fun s hs=>StA.ext HE8.o hne (StA.mono (fun b _ hb=>hPP b hb) (Nat.le_refl _) (HS7.o s hs)),HRR.o⟩⟩
  ·skip
   have qp:=HL6.o.bld.blk.cell;have qpl:=HL6.o.bld.blk.lt;unfold bldA at qp;go_wp2_with fail
   refine(range_any base g (n+BD d+10700000000) 1 2 _ (HL6.o.bld.stm.less (by omega)) (by omega) (by omega)).mono ?_
   rintro e w7 ⟨kk0,rfl,hkk,hE,hS⟩;obtain⟨kk,rfl⟩:∃k:Nat,kk0=k:=⟨kk0.toNat,by omega⟩;have HKK:Hd (1<=kk/\kk<=2):=hd (by omega);have HL7:=hd (HL6.o.draw hE hS);clear hE hS hkk qp qpl HL6;have hK2:100*KD 2=1000000000:=by decide
   have HK2:=hd hK2;clear hK2
   obtain⟨F,hF0,hFs,hFn⟩:∃F:Nat->Nat,F 0=n+BD d+10000000000/\(∀k,k<2->F k=F (k+1)+5000000000)/\∀k,n+BD d<=F k:=⟨fun k=>n+BD d+(2-k)*5000000000,by simp only[Nat.sub_zero],fun k hk=>by
    have e:2-k=(2-(k+1))+1:=by omega
    simp only[e,Nat.succ_mul];omega,fun k=>by simp only;omega⟩
   have HF0:=hd hF0;have HFS:=hd hFs;have HFN:=hd hFn;clear hF0 hFs hFn;go_wp2_with fail
   go_loopw [67] (fun i wr=>∃(k:Nat) (v:Value) (ss:List St),i=.int .i64 k/\k<=kk/\Hd (ss.length=k)/\Hd (LoS w (g :: pb :: (Value.slice VA l.length vc).ownBlock.toList) Hz base g pb (F k) bA bc bs (.slice (some ⟨g9,0,none⟩) (l.length+1) c9) (l ++ [s9]) cnt2 rb eb zSt (loA nm lo hi step false) v ss wr)) (fun i _=>(kk-intOf i).toNat)
   case atStart=>exact⟨0,_,[],rfl,Nat.zero_le _,hd rfl,hd (HL7.o.less (by rw[HF0.o];omega))⟩
   case round=>
    obtain⟨k,v,ss,rfl,hk,HKL,HO⟩:=hrel;have hkk2:=HKK.o.2;by_cases hlt:k<kk
    ·have hlti:(k:Int)<kk:=by omega
     have HLT:=hd hlt;go_wp2_with fail
     generalize hH:wr.heap.size=H4 at *;have HGH:Hd (g<H4):=hd (by rw[<-hH];exact HO.o.bld.stm.lt);have HHO:Hd (Hz<=H4):=hd (by rw[<-hH];exact HO.o.hH);have HVB:Hd (∀q,v.ownBlock=some q->q<H4):=hd fun q hq=>by rw[<-hH];exact(HO.o.own.lt q hq).2
     refine rgC 5 1000000000 base g (F (k+1)) [(3,sSt H4),(4,sSt1 H4)] (Stays.cons (sSt.stays HGH.o) (Stays.cons (sSt1.stays HGH.o) Stays.nil)) (HO.o.bld.stm.less (by rw[HFS.o k (by omega)];omega)) ?_
     simp only[List.take_succ_cons,List.take_zero,List.drop_succ_cons,List.drop_zero]
     repeat
      refine relAt_det rfl rfl ?_
      apply Exists.intro
      refine⟨fun wr nr hJ=>?_,?_⟩
      ·have hB:=HO.o.draw hJ.1 hJ.2;have qe:=hB.blk.cell;have qel:=hB.blk.lt;unfold loA at qe;clear hB;clear hJ;(go_simp;try go_bits)
       first|rfl|exact⟨rfl,rfl⟩
      simp only[Act.put,List.setIfInBounds_toArray,List.set_cons_succ,List.set_cons_zero]
     refine rel_callC (sSt H4) rfl rfl ?_ ?_
     ·apply Exists.intro
      apply Exists.intro
      refine⟨fun wr=>?_,fun wr m' hE hS hm hf=>?_⟩
      ·go_simp
       first|exact⟨rfl,rfl⟩|rfl
      ·refine(gstore_any base g pb m' bc _ bs _ (l ++ [s9]) cnt2 wr ((HO.o.bld.draw hE hS).less (by rw[HK2.o];omega))).mono ?_
       rintro e w' ⟨s,rfl,hs,hE',hS'⟩;exact⟨s,rfl,hs.mono (fun b _ hb=>by have:=hE.size;omega) (Nat.le_refl _),hE',hS'⟩
     intro (s:St);simp only[Act.put,List.setIfInBounds_toArray,List.set_cons_succ,List.set_cons_zero];dsimp only[sSt];refine rel_newC (sSt1 H4) rfl rfl ?_ ?_
     ·intro wq hE hf;have hv:(sSt H4).V s wq:=after_get hf 3 (by kernel_rfl);have h1:Ext [] wq (wq.alloc (.cells (stA s) 43)):=(Ext.refl _ _).alloc _;refine⟨(wq.heap.size,s),.cells (stA s) 43,?_,by have:=hE.size;show H4<=wq.heap.size;omega,Blk.new _ _ _,StA.ext h1 (by simp) hv⟩
      refine exec_buildSlice rfl _ wq _ _ (stV s) ?_ ?_
      ·rfl
      ·exact st1_slice wq s
     rintro⟨kb,y⟩;simp only[Act.put,List.setIfInBounds_toArray,List.set_cons_succ,List.set_cons_zero];dsimp only[sSt1];refine relAt_nil (fun wy hJ hF=>?_)
     have hv:(sSt1 H4).V (kb,y) wy:=hF 4;have HV:=hd hv;have HOy:=hd ((HO.o.draw hJ.1 hJ.2).less (m:=F (k+1)) (by omega));have HYA:Hd (StA (fun b=>Hz<=b/\v.ownBlock≠some b) 20 wy y):=hd (StA.mono (fun b _ hb=>⟨Nat.le_trans HHO.o hb,fun e=>by have:=HVB.o b e;omega⟩) (Nat.le_refl _) hv.2.2);clear hJ hF hv;obtain⟨i0,hi0,hz0,hz1,hz2⟩:=stxInfo;have hks:ss.length<2:=by rw[HKL.o];omega
     go_wp2_with (
      refine wpList_append_lies _ rfl _ _ 27 rfl Hz 43 i0 _ 21 256 Tryz.underlying27 hi0 hz0 hz1 hz2 rfl (by decide) v ss.length (ss.flatMap stC) rfl HOy.o.own ⟨kb,0,none⟩ 1 1 (stC y) rfl (stC_len y) ?c1 (stC_one y) (by omega) ?c3 ?c4 HOy.o.hH _ rfl ?_
      case c1=>intro j u hj;rw[Addr.add_mk,Nat.zero_add,HV.o.2.1.cell,<-Array.getElem?_toList,<-stC_arr];exact hj
      case c3=>unfold maxLen;omega
      case c4=>omega
      intro g8 c8 w8 ho8 hg8 hi8 ha8;have HE8:Hd (Ext v.ownBlock.toList wy w8):=hd ((Ext.refl _ wy).grown hg8 fun q hq=>.inl (Option.mem_toList.2 hq));have HO9:=hd (HOy.o.more HE8.o (k:=7) (fun a b=>rfl) ho8 (hi8.imp id fun e=>Nat.le_of_eq e.symm) HYA.o);have hb8:=HOy.o.blk.ext HE8.o fun hm=>by have:=own_base HOy.o.own _ (Option.mem_toList.1 hm);have:=HOy.o.ebH;omega
      have qe:=hb8.cell;have qef:=hb8.frozen;have qel:=hb8.lt;unfold loA at qe;clear ho8 hg8 hi8 ha8 hb8)
     go_roundw
     case rel=>exact⟨k+1,_,ss ++ [y],by go_num,by omega,hd (by rw[List.length_append,HKL.o];rfl),HO9⟩
     case measure=>simp[intOf];omega
    ·have qe:=HO.o.blk.cell;have qef:=HO.o.blk.frozen;have qel:=HO.o.blk.lt;unfold loA at qe;have HO8:=hd (HO.o.put (C':=loA nm lo hi step true) 5 (.bool true) rfl);go_wp2_with fail
     go_meet
     obtain⟨A,c,rfl,-,-⟩:=own_form HO8.o.own;obtain⟨-,hq,hs⟩:=HO8.o.body (by rw[HKL.o];omega) rfl;have hz:=HO8.o.hz;exact⟨true,A,c,ss,_,cnt2,hd ⟨HO8.o.ext,HO8.o.bld.less (by have:=HFN.o k;omega),HO8.o.res,HO8.o.blk,SeqA.mono hq (fun b _ hb=>⟨hb,fun e=>by have:=(hz b e).1;omega⟩) (Nat.le_refl _),fun s hs'=>StA.mono (fun b _ hb=>⟨hb,fun e=>by have:=(hz b e).1;omega⟩) (by omega) (hs s hs'),fun q hq=>⟨HRW.o q hq,(hz q hq).2,HVR.o q hq⟩⟩⟩
 case rest=>
  obtain⟨vec,A,c,ss,V',cnt',HM⟩:=hcut;clear HL6;obtain⟨VA',vc',hV',hcap,hnz⟩:=own_form HM.o.bld.row;obtain⟨q,hq,-,hqw⟩:=hnz (by simp);subst hq;have hln:(l ++ [s9]).length=l.length+1:=by simp
  rw[hln] at hV' hcap;subst hV';have hcl:l.length<=vc':=by omega
  have hcli:(l.length:Int)<=(vc':Int):=by omega
  have HMB:=hd HM.o.bld;have HQR:=hd (HM.o.row q rfl);clear hnz hln;have hl2:l.length<=2:=HL2.o;go_upto_region 12 with fail
  refine wp_region_rel 12 (JE _) (Ext []) (kinds []) (by kernel_rfl) (by kernel_rfl) JE.less Stays.nil JE.start ?_
  simp only[List.take_succ_cons,List.take_zero,List.drop_succ_cons,List.drop_zero]
  repeat
   refine relAt_det rfl rfl ?_
   apply Exists.intro
   refine⟨fun wr nr hJ=>?_,?_⟩
   ·have hB:=HMB.o.blk.ext hJ (by simp);have qp:=hB.cell;have qpl:=hB.lt;unfold bldA at qp;clear hB;clear hJ;(go_simp;try go_bits)
    first|rfl|exact⟨rfl,rfl⟩
   simp only[Act.put,List.setIfInBounds_toArray,List.set_cons_succ,List.set_cons_zero]
  refine relAt_nil (fun wp hJ hF=>?_)
  have HJP:=hd hJ;clear hJ hF;have HDP:=hd (HMB.o.grow HJP.o);have HBP:=hd (HM.o.blk.ext HJP.o (by simp));have HRP:=hd (HM.o.res.ext HJP.o (by simp));have qp:=HDP.o.blk.cell;have qpf:=HDP.o.blk.frozen;have qpl:=HDP.o.blk.lt;unfold bldA at qp;have HPO:=hd HDP.o.pop;have HEO:=hd (Ext.setAt (b:=pb) (i:=3) (u:=.slice (some ⟨q,0,none⟩) l.length vc') (.inl (by simp)) (Ext.refl [pb] wp));go_upto_region 13 with fail
  generalize World.setCell wp _ _=wo at *;have hpe:pb≠eb:=by have:=HHE.o;omega
  have HBO:=hd (HBP.o.ext HEO.o (by rw[List.mem_singleton];omega));have HRO:=hd (HRP.o.ext HEO.o (by rw[List.mem_singleton];omega));have hpf:∀x∈[pb],¬Fr Hz (.slice (some ⟨q,0,none⟩) (l.length+1) vc') x:=fun x hx hh=>by rw[List.mem_singleton.1 hx] at hh;have:=hh.1;omega
  have HSQ:=hd (SeqA.ext (SeqA.ext HM.o.seq HJP.o (by simp)) HEO.o hpf);have HKI:=hd (fun s hs=>StA.ext HEO.o hpf (StA.ext HJP.o (by simp) (HM.o.kid s hs)));have HXO:=hd ((HM.o.ext.trans HJP.o.nil).trans (HEO.o.mono fun x hx=>.inl (by rw[List.mem_singleton.1 hx];simp)));clear HDP HBP HRP HEO qp qpf qpl hpf;have HSS:Hd (StA (Fr Hz (.slice (some ⟨q,0,none⟩) l.length vc')) (20+(d+1)) wo (.mk ⟨1,nm,lo,hi,step,vec,none,0,[],A,c,0,afZ,.mk exZ []⟩ ss)):=hd (.mk _ _ (SeqA.nil ..) (fun a h=>by cases h) (SeqA.nil ..) (.mk _ _ (SeqA.nil ..) (SeqA.nil ..) (fun e h=>by cases h)) (by show parts (.mk exZ [])<=20+(d+1);simp[parts,partsL];omega) (Nat.le_trans HNM.o (by omega)) (by omega) (SeqA.mono HSQ.o (fun b _ h=>h) (by omega)) (fun s hs=>StA.mono (fun b _ h=>h) (by omega) (HKI.o s hs)));have HVS:=hd (stV_arr (.mk ⟨1,nm,lo,hi,step,vec,none,0,[],A,c,0,afZ,.mk exZ []⟩ ss));have HBS:Hd (Blk wo eb 43 (stA (.mk ⟨1,nm,lo,hi,step,vec,none,0,[],A,c,0,afZ,.mk exZ []⟩ ss))):=hd HBO.o;have HO1:=hd (stA_one (.mk ⟨1,nm,lo,hi,step,vec,none,0,[],A,c,0,afZ,.mk exZ []⟩ ss));have HI1:=hd (stA_info (.mk ⟨1,nm,lo,hi,step,vec,none,0,[],A,c,0,afZ,.mk exZ []⟩ ss));have HZ1:=hd (show zSt.size=(stA (.mk ⟨1,nm,lo,hi,step,vec,none,0,[],A,c,0,afZ,.mk exZ []⟩ ss)).size from rfl);generalize St.mk ⟨1,nm,lo,hi,step,vec,none,0,[],A,c,0,afZ,.mk exZ []⟩ ss=sx at *;generalize stA sx=xa at *
  go_wp2_with (first
   | refine wpList_load_wide rfl 43 _ rfl eb 0 rfl xa HBS.o.wide _ Tryz.underlying43 rfl HI1.o ?_
   | (
     refine wpList_store_wide rfl 43 _ _ rfl rb xa zSt 43 rfl rfl HRO.o HI1.o HZ1.o HO1.o ?_
     intro w8 hB8 hE8;have HB8:=hd hB8;have HE8:=hd hE8;clear hB8 hE8))
  refine bodyPost_ret (results_cell_row rfl _ _ rb 43 _ (0,0) _ rfl HB8.o Tryz.underlying43 rfl HI1.o) rfl ?_
  rw[<-HVS.o];refine⟨sx,.slice (some ⟨q,0,none⟩) l.length vc',cnt',rfl,StA.mono (fun b _ hb=>⟨by have:=hb.1;have:=HRB.o;omega,hb.2⟩) (Nat.le_refl _) (StA.ext HE8.o (fun x hx hh=>by rw[List.mem_singleton.1 hx] at hh;have:=hh.1;omega) HSS.o),HXO.o.step HE8.o (fun x hx=>.inr (by rw[List.mem_singleton.1 hx];exact Nat.le_of_eq HRB.o)),HPO.o.one HE8.o HRO.o (fun k hk=>by have:=(HM.o.row k hk).2.2;exact this) (by have:=HBB.o;omega),fun k hk=>(HM.o.row k hk).1⟩
end
section
theorem AfA.ext' {P:Nat->Prop}{N:Nat}{w w':World}{S:List Nat}(hE:Ext S w w')(hS:∀x∈S,¬P x){a:Af}(h:AfA P N w a):AfA P N w' a:=SeqA.ext h hE hS
theorem AfA.mono' {P Q:Nat->Prop}{N M:Nat}{w:World}(hP:∀b,b<w.heap.size->P b->Q b)(hN:N<=M){a:Af}(h:AfA P N w a):AfA Q M w a:=SeqA.mono h hP hN
theorem afC_len (a:Af):(afC a).length=2:=rfl
structure LoF (w:World)(T:List Nat)(H base g pb n:Nat)(bA:Option Addr)(bc:Nat)(bs:List Bf)(Vz:Value)(lz:List St)(cnt:Int)(eb:Nat)(C:Value->Array Value)(v:Value)(ss:List Af)(wx:World):Prop where
 ext:Ext T w wx
 bld:Bld wx base g pb n bA bc bs Vz lz cnt
 blk:Blk wx eb 43 (C v)
 own:wx.ownsRow H 38 2 v ss.length (ss.flatMap afC)
 kid:∀s∈ss,AfA (fun b=>H<=b/\v.ownBlock≠some b) 20 wx s
 hz:∀q,Vz.ownBlock=some q->q<H/\q≠eb
 hb:∀q,(Value.slice bA bs.length bc).ownBlock=some q->q<w.heap.size
 tg:g∈T
 eb0:w.heap.size<=eb
 ebH:eb<H
 g0:g<w.heap.size
 p0:pb<w.heap.size
 hH:H<=wx.heap.size
section
variable {w wx wy:World} {T:List Nat} {H base g pb n m bc:Nat} {bA:Option Addr} {bs:List Bf} {Vz:Value} {lz:List St} {cnt:Int} {eb:Nat} {C:Value->Array Value} {v:Value} {ss:List Af}
theorem LoF.draw (h:LoF w T H base g pb n bA bc bs Vz lz cnt eb C v ss wx)(hE:Ext [g] wx wy)(hS:Stm wy base g m):LoF w T H base g pb m bA bc bs Vz lz cnt eb C v ss wy:=by
 have h0:=h.g0;have h2:=h.eb0;have h3:=h.ebH
 exact⟨h.ext.trans (hE.mono fun x hx=>.inl (by rw[List.mem_singleton.1 hx];exact h.tg)),h.bld.draw hE hS,h.blk.ext hE (by rw[List.mem_singleton];omega),
  own_ext h.own hE fun q hq=>by have:=own_base h.own q hq;rw[List.mem_singleton];omega,fun x hx=>AfA.ext' hE (fun y hy hh=>by rw[List.mem_singleton.1 hy] at hh;have:=hh.1;omega) (h.kid x hx),h.hz,h.hb,h.tg,h.eb0,h.ebH,h.g0,h.p0,Nat.le_trans h.hH hE.size⟩
theorem LoF.less (h:LoF w T H base g pb n bA bc bs Vz lz cnt eb C v ss wx)(hm:m<=n):LoF w T H base g pb m bA bc bs Vz lz cnt eb C v ss wx:=⟨h.ext,h.bld.less hm,h.blk,h.own,h.kid,h.hz,h.hb,h.tg,h.eb0,h.ebH,h.g0,h.p0,h.hH⟩
theorem LoF.bldx (h:LoF w T H base g pb n bA bc bs Vz lz cnt eb C v ss wx){S:List Nat}(hE:Ext S wx wy)(hS:∀q∈S,H<=q\/q=eb):Bld wy base g pb n bA bc bs Vz lz cnt/\Ext T w wy:=by
 have h0:=h.g0;have h2:=h.eb0;have h3:=h.ebH;have hb:=h.bld.bpb;have hp:=h.p0;refine⟨?_,h.ext.step hE fun x hx=>.inr (by rcases hS x hx with e|e<;>omega)⟩
 refine⟨h.bld.stm.ext hE (fun hm=>by rcases hS _ hm with e|e<;>omega) (fun q hq=>by rcases hS _ hq with e|e<;>omega),h.bld.blk.ext hE (fun hm=>by rcases hS _ hm with e|e<;>omega),h.bld.bpb,own_ext h.bld.buf hE fun q hq hm=>?_,own_ext h.bld.row hE fun q hq hm=>?_,h.bld.bne,h.bld.b9,h.bld.bsz,h.bld.l3⟩
 ·rcases hS _ hm with e|e
  ·have:=h.hb q hq;omega
  ·exact own_apart h.bld.buf h.blk (by decide) q hq e
 ·rcases hS _ hm with e|e
  ·have:=(h.hz q hq).1;omega
  ·exact(h.hz q hq).2 e
theorem LoF.more (h:LoF w T H base g pb n bA bc bs Vz lz cnt eb C v ss wx)(hE:Ext v.ownBlock.toList wx wy){g8 c8 k:Nat}{s:Af}(hC:∀a b,(C a).setIfInBounds k b=C b)
  (hO:wy.ownsRow H 38 2 (.slice (some ⟨g8,0,none⟩) (ss.length+1) c8) (ss.length+1) (ss.flatMap afC ++ afC s)) (hg8:v.ownBlock=some g8\/wx.heap.size<=g8) (hs:AfA (fun b=>H<=b/\v.ownBlock≠some b) 20 wx s) :
  LoF w T H base g pb n bA bc bs Vz lz cnt eb C (.slice (some ⟨g8,0,none⟩) (ss.length+1) c8) (ss ++ [s]) (wy.setCell ⟨eb,k,none⟩ (.slice (some ⟨g8,0,none⟩) (ss.length+1) c8)):=by
 have hE2:Ext [eb] wy (wy.setCell ⟨eb,k,none⟩ (.slice (some ⟨g8,0,none⟩) (ss.length+1) c8)):=Ext.setAt (.inl (by simp)) (Ext.refl _ _);have g0:=h.g0;have h2:=h.eb0;have h3:=h.ebH;have hq:∀q∈v.ownBlock.toList,H<=q:=fun q hq=>own_base h.own q (Option.mem_toList.1 hq)
 have hq8:H<=g8:=own_base hO g8 rfl;have hE3:Ext (eb :: v.ownBlock.toList) wx (wy.setCell ⟨eb,k,none⟩ (.slice (some ⟨g8,0,none⟩) (ss.length+1) c8)):=(hE.mono fun x hx=>.inl (List.mem_cons_of_mem _ hx)).trans (hE2.mono fun x hx=>.inl (by rw[List.mem_singleton.1 hx];simp));have hb:Blk wy eb 43 (C v):=h.blk.ext hE fun hm=>by have:=hq _ hm;omega
 have step:∀z,AfA (fun b=>H<=b/\v.ownBlock≠some b) 20 wx z->AfA (fun b=>H<=b/\(Value.slice (some ⟨g8,0,none⟩) (ss.length+1) c8).ownBlock≠some b) 20 (wy.setCell ⟨eb,k,none⟩ (.slice (some ⟨g8,0,none⟩) (ss.length+1) c8)) z:=fun z hz=>by
  have z1:=AfA.mono' (Q:=fun b=>H<=b/\b≠g8/\v.ownBlock≠some b) (fun b hb hh=>⟨hh.1,(by rintro rfl;rcases hg8 with e|e;exact hh.2 e;omega),hh.2⟩) (Nat.le_refl _) hz;have z2:=AfA.ext' hE (fun y hy hh=>hh.2.2 (Option.mem_toList.1 hy)) z1;have z3:=AfA.ext' hE2 (fun y hy hh=>by rw[List.mem_singleton.1 hy] at hh;have:=hh.1;omega) z2;exact AfA.mono' (fun b _ hh=>⟨hh.1,fun e=>by cases e;exact hh.2.1 rfl⟩) (Nat.le_refl _) z3
 obtain⟨hbl,hex⟩:=h.bldx hE3 fun q hqq=>by
  rcases List.mem_cons.1 hqq with e|e
  ·exact .inr e
  ·exact .inl (hq q e)
 refine⟨hex,hbl,by have:=hb.set_ k (.slice (some ⟨g8,0,none⟩) (ss.length+1) c8);rw[hC] at this;exact this,?_,fun x hx=>?_,h.hz,h.hb,h.tg,h.eb0,h.ebH,h.g0,h.p0,Nat.le_trans h.hH hE3.size⟩
 ·rw[List.length_append,List.flatMap_append];have e:List.flatMap afC [s]=afC s:=by simp
  rw[e];exact own_ext hO hE2 fun q hqq=>by have:=own_base hO q hqq;rw[List.mem_singleton];omega
 ·rcases List.mem_append.1 hx with hx|hx
  ·exact step x (h.kid x hx)
  ·rw[List.mem_singleton.1 hx];exact step s hs
theorem LoF.conds (h:LoF w T H base g pb n bA bc bs Vz lz cnt eb C v ss wx)(hl:ss.length<=20){A:Option Addr}{n0 c:Nat}(hv:v=.slice A n0 c):n0=ss.length/\SeqA (fun b=>H<=b) 20 wx A 2 afC ss/\∀s∈ss,AfA (fun b=>H<=b) 20 wx s:=by
 subst hv;have hO:=h.own;obtain⟨A',c',e,-,-⟩:=own_form hO;cases e
 exact⟨rfl,(SeqA.own (P:=fun b=>H<=b) afC_len hO hl (by decide) (fun q _ h1 _=>h1)).2,fun s hs=>AfA.mono' (fun b _ hb=>hb.1) (Nat.le_refl _) (h.kid s hs)⟩
end
structure BoX (d:Nat)(w:World)(u:Value)(ss:List St)(V':Value)(wx:World):Prop where
 own:wx.ownsRow w.heap.size 43 21 u ss.length (ss.flatMap stC)
 kid:∀s∈ss,StA (fun b=>w.heap.size<=b/\u.ownBlock≠some b/\V'.ownBlock≠some b) (20+d) wx s
 sep:∀q,u.ownBlock=some q->V'.ownBlock≠some q
 siz:w.heap.size<=wx.heap.size
section
variable {d:Nat} {w wx wy:World} {u V' V'':Value} {ss:List St}
theorem BoX.keep (h:BoX d w u ss V' wx){S:List Nat}(hE:Ext S wx wy)(hS:∀q∈S,q<w.heap.size\/V'.ownBlock=some q):BoX d w u ss V' wy:=
 ⟨own_ext h.own hE fun q hq hm=>by
  rcases hS q hm with e|e
  ·have:=own_base h.own q hq;omega
  ·exact h.sep q hq e,fun s hs=>StA.ext hE (fun y hy hh=>by
  rcases hS y hy with e|e
  ·have:=hh.1;omega
  ·exact hh.2.2 e) (h.kid s hs),h.sep,Nat.le_trans h.siz hE.size⟩
theorem BoX.grow (h:BoX d w u ss V' wx)(hE:Ext [] wx wy):BoX d w u ss V' wy:=h.keep hE (by simp)
theorem BoX.row (h:BoX d w u ss V' wx)(hV:∀q,V''.ownBlock=some q->V'.ownBlock=some q\/wx.heap.size<=q):BoX d w u ss V'' wx:=
 ⟨h.own,fun s hs=>StA.mono (fun b hb hh=>⟨hh.1,hh.2.1,fun e=>by
  rcases hV b e with e1|e1
  ·exact hh.2.2 e1
  ·omega⟩) (Nat.le_refl _) (h.kid s hs),fun q hq e=>by
  rcases hV q e with e1|e1
  ·exact h.sep q hq e1
  ·have:=(h.own.lt q hq).2;omega,h.siz⟩
theorem BoX.more (h:BoX d w u ss V' wx)(hE:Ext u.ownBlock.toList wx wy){g8 c8:Nat}{s:St}(hO:wy.ownsRow w.heap.size 43 21 (.slice (some ⟨g8,0,none⟩) (ss.length+1) c8) (ss.length+1) (ss.flatMap stC ++ stC s))(hg8:u.ownBlock=some g8\/wx.heap.size<=g8)
  (hV:∀q,V'.ownBlock=some q->q<wx.heap.size) (hs:StA (fun b=>w.heap.size<=b/\u.ownBlock≠some b/\V'.ownBlock≠some b) (20+d) wx s):BoX d w (.slice (some ⟨g8,0,none⟩) (ss.length+1) c8) (ss ++ [s]) V' wy:=by
 have step:∀z,StA (fun b=>w.heap.size<=b/\u.ownBlock≠some b/\V'.ownBlock≠some b) (20+d) wx z->StA (fun b=>w.heap.size<=b/\(Value.slice (some ⟨g8,0,none⟩) (ss.length+1) c8).ownBlock≠some b/\V'.ownBlock≠some b) (20+d) wy z:=fun z hz=>by
  have z1:=StA.mono (Q:=fun b=>w.heap.size<=b/\b≠g8/\u.ownBlock≠some b/\V'.ownBlock≠some b) (fun b hb hh=>⟨hh.1,(by rintro rfl;rcases hg8 with e|e;exact hh.2.1 e;omega),hh.2⟩) (Nat.le_refl _) hz;have z2:=StA.ext hE (fun y hy hh=>hh.2.2.1 (Option.mem_toList.1 hy)) z1;exact StA.mono (fun b _ hh=>⟨hh.1,fun e=>by cases e;exact hh.2.1 rfl,hh.2.2.2⟩) (Nat.le_refl _) z2
 refine⟨?_,fun x hx=>?_,fun q hq e=>?_,Nat.le_trans h.siz hE.size⟩
 ·rw[List.length_append,List.flatMap_append];have e:List.flatMap stC [s]=stC s:=by simp
  rw[e];exact hO
 ·rcases List.mem_append.1 hx with hx|hx
  ·exact step x (h.kid x hx)
  ·rw[List.mem_singleton.1 hx];exact step s hs
 ·have hq8:q=g8:=by cases hq;rfl
  rcases hg8 with e1|e1
  ·exact h.sep g8 e1 (hq8 ▸ e)
  ·have:=hV q e;omega
end
end
end Go.Proofs.YtfppibmloloakaaGreatDoor
