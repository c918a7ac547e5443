import Derived.Test.YtfppibmloloakaaGreatDoorI38
namespace Go.Proofs.YtfppibmloloakaaGreatDoor
open Go.RowKit Go.Proofs.Tryz
set_option linter.all false
set_option maxHeartbeats 64000000
section
def stZ0:St:=.mk ⟨0,⟨#[]⟩,0,0,0,false,none,0,[],none,0,0,Yd,Ak8⟩ []
def stA (s:St):Array Value:=Ai s.h s.body.length s.h.val.h s.h.val.ks.length
theorem Rq (s:St):stV s=.agg (stA s):=by cases s;rfl
theorem Hs (s:St):stC s=(stA s).toList:=by cases s;rfl
theorem Rr (s:St):(stA s).all (·.oneCell')=true:=Da ..
theorem Mz (s:St):(prog.info? 43).map (·.size)=some (stA s).size:=Dx
theorem Ai4 (s:St):(stA s).size=21:=rfl
theorem Lr (s:St):∀u∈stC s,u.oneCell'=true:=fun u hu=>by
 have h:=Rr s;rw[Hs] at hu;rw[Array.all_eq_true_iff_forall_mem] at h;exact h u (Array.mem_toList_iff.1 hu)
theorem No (w:World)(s:St):(Instr.buildSlice 27 1 #[(0,stV s)]).run prog w=.ok (.slice (some w.heap.size) 1 1) (w.alloc (.cells (stA s) 43)):=by
 rw[Rq];exact Kz w s.h s.body.length s.h.val.h s.h.val.ks.length
def sSt (H:Nat):Bc:=⟨St,stZ0,stV,fun s w=>StA (fun b=>H<=b) 20 w s⟩
def Aaz (H:Nat):Bc:=⟨Nat×St,(0,stZ0),fun u=>.slice (some u.1) 1 1,fun u w=>H<=u.1/\Blk w u.1 43 (stA u.2)/\StA (fun b=>H<=b) 20 w u.2⟩
section
variable {H g:Nat} (hg:g<H)
include hg
theorem sSt.stays:∀y w w',Ext [g] w w'->(sSt H).V y w->(sSt H).V y w':=fun y w w' hE h=>StA.ext hE (fun x hx=>by rw[jA.1 hx];omega) h
theorem Aaz.stays:∀y w w',Ext [g] w w'->(Aaz H).V y w->(Aaz H).V y w':=fun y w w' hE h=>⟨h.1,h.2.1.ext hE (by rw[jA];have:=h.1;omega),StA.ext hE (fun x hx=>by rw[jA.1 hx];omega) h.2.2⟩
end
theorem Bld.one {w w':World}{base g pb n bc q:Nat}{bA:Option Addr}{bs:List Bf}{V:Value}{l:List St}{cnt:Int}{C:Array Value}(h:Bld w base g pb n bA bc bs V l cnt)(hE:Ext [q] w w')(hq:Blk w q 43 C)(hV:∀k,V.ownBlock=some k->k≠q)(hb:base<=q):Bld w' base g pb n bA bc bs V l cnt:=by
 obtain⟨D,hD⟩:=h.stm.blk;have h1:g≠q:=fun e=>by rw[e] at hD;exact absurd (hD.type hq) (by decide)
 have h2:pb≠q:=fun e=>by have hp:=h.blk;rw[e] at hp;exact absurd (hp.type hq) (by decide)
 exact⟨h.stm.ext hE (by rw[jA];exact h1) (fun x hx=>by rw[jA.1 hx];exact hb),h.blk.ext hE (by rw[jA];exact h2),h.bpb,Ah h.buf hE fun k hk=>by rw[jA];exact Cb h.buf hq (by decide) k hk,
  Ah h.row hE fun k hk=>by rw[jA];exact hV k hk,h.bne,h.b9,h.bsz,h.l3⟩
structure LoS (w:World)(T:List Nat)(H base g pb n:Nat)(bA:Option Addr)(bc:Nat)(bs:List Bf)(Vz:Value)(lz:List St)(cnt:Int)(rb eb:Nat)(zr:Array Value)(C:Value->Array Value)(v:Value)(ss:List St)(wx:World):Prop where
 ext:Ext T w wx
 bld:Bld wx base g pb n bA bc bs Vz lz cnt
 res:Blk wx rb 43 zr
 blk:Blk wx eb 43 (C v)
 own:wx.ownsRow H 43 21 v ss.length (ss.flatMap stC)
 kid:∀s∈ss,StA (fun b=>H<=b/\v.ownBlock≠some b) 20 wx s
 hz:∀q,Vz.ownBlock=some q->q<H/\q≠eb
 hb:∀q,(Value.slice bA bs.length bc).ownBlock=some q->q<w.heap.size
 tg:g∈T
 rb0:w.heap.size<=rb
 eb0:rb<eb
 ebH:eb<H
 g0:g<w.heap.size
 p0:pb<w.heap.size
 hH:H<=wx.heap.size
section
variable {w wx wy:World} {T:List Nat} {H base g pb n m bc:Nat} {bA:Option Addr} {bs:List Bf} {Vz:Value} {lz:List St} {cnt:Int} {rb eb:Nat} {zr:Array Value} {C:Value->Array Value} {v:Value} {ss:List St}
theorem LoS.draw (h:LoS w T H base g pb n bA bc bs Vz lz cnt rb eb zr C v ss wx)(hE:Ext [g] wx wy)(hS:Stm wy base g m):LoS w T H base g pb m bA bc bs Vz lz cnt rb eb zr C v ss wy:=by
 have h0:=h.g0;have h1:=h.rb0;have h2:=h.eb0;have h3:=h.ebH
 exact⟨h.ext.trans (hE.mono fun x hx=>.inl (by rw[jA.1 hx];exact h.tg)),h.bld.draw hE hS,h.res.ext hE (by rw[jA];omega),h.blk.ext hE (by rw[jA];omega),
  Ah h.own hE fun q hq=>by have:=Ae h.own q hq;rw[jA];omega,fun x hx=>StA.ext hE (fun y hy hh=>by rw[jA.1 hy] at hh;have:=hh.1;omega) (h.kid x hx),h.hz,h.hb,h.tg,h.rb0,h.eb0,h.ebH,h.g0,h.p0,nt h.hH hE.size⟩
theorem LoS.less (h:LoS w T H base g pb n bA bc bs Vz lz cnt rb eb zr C v ss wx)(hm:m<=n):LoS w T H base g pb m bA bc bs Vz lz cnt rb eb zr C v ss wx:=⟨h.ext,h.bld.less hm,h.res,h.blk,h.own,h.kid,h.hz,h.hb,h.tg,h.rb0,h.eb0,h.ebH,h.g0,h.p0,h.hH⟩
theorem LoS.bldx (h:LoS w T H base g pb n bA bc bs Vz lz cnt rb eb zr C v ss wx){S:List Nat}(hE:Ext S wx wy)(hS:∀q∈S,H<=q\/q=eb):Bld wy base g pb n bA bc bs Vz lz cnt/\Ext T w wy:=by
 have h0:=h.g0;have h1:=h.rb0;have h2:=h.eb0;have h3:=h.ebH;have hb:=h.bld.bpb;have hp:=h.p0;refine⟨?_,h.ext.step hE fun x hx=>.inr (by rcases hS x hx with e|e<;>omega)⟩
 refine⟨h.bld.stm.ext hE (fun hm=>by rcases hS _ hm with e|e<;>omega) (fun q hq=>by rcases hS _ hq with e|e<;>omega),h.bld.blk.ext hE (fun hm=>by rcases hS _ hm with e|e<;>omega),h.bld.bpb,Ah h.bld.buf hE fun q hq hm=>?_,Ah h.bld.row hE fun q hq hm=>?_,h.bld.bne,h.bld.b9,h.bld.bsz,h.bld.l3⟩
 ·rcases hS _ hm with e|e
  ·have:=h.hb q hq;omega
  ·exact Cb h.bld.buf h.blk (by decide) q hq e
 ·rcases hS _ hm with e|e
  ·have:=(h.hz q hq).1;omega
  ·exact(h.hz q hq).2 e
theorem LoS.more (h:LoS w T H base g pb n bA bc bs Vz lz cnt rb eb zr C v ss wx)(hE:Ext v.ownBlock.toList wx wy){g8 c8 k:Nat}{s:St}(hC:∀a b,(C a).setIfInBounds k b=C b)
  (hO:wy.ownsRow H 43 21 (.slice (some g8) (ss.length+1) c8) (ss.length+1) (ss.flatMap stC ++ stC s)) (hg8:v.ownBlock=some g8\/wx.heap.size<=g8) (hs:StA (fun b=>H<=b/\v.ownBlock≠some b) 20 wx s) :
  LoS w T H base g pb n bA bc bs Vz lz cnt rb eb zr C (.slice (some g8) (ss.length+1) c8) (ss ++ [s]) (wy.setCell ⟨eb,k,none⟩ (.slice (some g8) (ss.length+1) c8)):=by
 have a1:Ext [eb] wy (wy.setCell ⟨eb,k,none⟩ (.slice (some g8) (ss.length+1) c8)):=jL (.inl (by simp)) (jF _ _);have g0:=h.g0;have h1:=h.rb0;have h2:=h.eb0;have h3:=h.ebH;have hq:∀q∈v.ownBlock.toList,H<=q:=fun q hq=>Ae h.own q (jC.1 hq)
 have a8:H<=g8:=Ae hO g8 rfl;have a2:Ext (eb :: v.ownBlock.toList) wx (wy.setCell ⟨eb,k,none⟩ (.slice (some g8) (ss.length+1) c8)):=(hE.mono fun x hx=>.inl (jI _ hx)).trans (a1.mono fun x hx=>.inl (by rw[jA.1 hx];simp));have hb:Blk wy eb 43 (C v):=h.blk.ext hE fun hm=>by have:=hq _ hm;omega
 have step:∀z,StA (fun b=>H<=b/\v.ownBlock≠some b) 20 wx z->StA (fun b=>H<=b/\(Value.slice (some g8) (ss.length+1) c8).ownBlock≠some b) 20 (wy.setCell ⟨eb,k,none⟩ (.slice (some g8) (ss.length+1) c8)) z:=fun z hz=>by
  have z1:=StA.mono (Q:=fun b=>H<=b/\b≠g8/\v.ownBlock≠some b) (fun b hb hh=>⟨hh.1,(by rintro rfl;rcases hg8 with e|e;exact hh.2 e;omega),hh.2⟩) (jD _) hz;have z2:=StA.ext hE (fun y hy hh=>hh.2.2 (jC.1 hy)) z1;have z3:=StA.ext a1 (fun y hy hh=>by rw[jA.1 hy] at hh;have:=hh.1;omega) z2;exact StA.mono (fun b _ hh=>⟨hh.1,fun e=>by cases e;exact hh.2.1 rfl⟩) (jD _) z3
 obtain⟨a6,a7⟩:=h.bldx a2 fun q hqq=>by
  rcases jE.1 hqq with e|e
  ·exact .inr e
  ·exact .inl (hq q e)
 refine⟨a7,a6,(h.res.ext hE (fun hm=>by have:=hq _ hm;omega)).ext a1 (by rw[jA];omega),by have:=hb.set_ k (.slice (some g8) (ss.length+1) c8);rw[hC] at this;exact this,?_,fun x hx=>?_,h.hz,h.hb,h.tg,h.rb0,h.eb0,h.ebH,h.g0,h.p0,nt h.hH a2.size⟩
 ·rw[jG,List.flatMap_append];have e:List.flatMap stC [s]=stC s:=by simp
  rw[e];exact Ah hO a1 fun q hqq=>by have:=Ae hO q hqq;rw[jA];omega
 ·rcases jN.1 hx with hx|hx
  ·exact step x (h.kid x hx)
  ·rw[jA.1 hx];exact step s hs
theorem LoS.put (h:LoS w T H base g pb n bA bc bs Vz lz cnt rb eb zr C v ss wx){C':Value->Array Value}(k:Nat)(u:Value)(hC:(C v).setIfInBounds k u=C' v):LoS w T H base g pb n bA bc bs Vz lz cnt rb eb zr C' v ss (wx.setCell ⟨eb,k,none⟩ u):=by
 have hE:Ext [eb] wx (wx.setCell ⟨eb,k,none⟩ u):=jL (.inl (by simp)) (jF _ _);have g0:=h.g0;have h1:=h.rb0;have h2:=h.eb0;have h3:=h.ebH;obtain⟨a1,a2⟩:=h.bldx hE fun q hqq=>.inr (jA.1 hqq)
 exact⟨a2,a1,h.res.ext hE (by rw[jA];omega),hC ▸ h.blk.set_ k u,Ah h.own hE fun q hqq=>by have:=Ae h.own q hqq;rw[jA];omega,
  fun x hx=>StA.ext hE (fun y hy hh=>by rw[jA.1 hy] at hh;have:=hh.1;omega) (h.kid x hx),h.hz,h.hb,h.tg,h.rb0,h.eb0,h.ebH,h.g0,h.p0,nt h.hH hE.size⟩
theorem LoS.body (h:LoS w T H base g pb n bA bc bs Vz lz cnt rb eb zr C v ss wx)(hl:ss.length<=20){A:Option Addr}{n0 c:Nat}(hv:v=.slice A n0 c):n0=ss.length/\Aq (fun b=>H<=b) 20 wx A 21 stC ss/\∀s∈ss,StA (fun b=>H<=b) 20 wx s:=by
 subst hv;have hO:=h.own;obtain⟨A',c',e,-,-⟩:=Be hO;cases e
 exact⟨rfl,(Aq.own (P:=fun b=>H<=b) Cw hO hl (by decide) (fun q _ h1 _=>h1)).2,fun s hs=>StA.mono (fun b _ hb=>hb.1) (jD _) (h.kid s hs)⟩
end
end
section
attribute [local irreducible] Bm Bh
def BD (d:Nat):Nat:=10000000000*20 ^ d
theorem Alf (d:Nat):BD (d+1)=20*BD d:=by unfold BD;rw[Nat.pow_succ];omega
theorem Amq (d:Nat):10000000000<=BD d:=by unfold BD;have:=Nat.one_le_pow d 20 (by omega);omega
structure Aa0 (w:World)(base g pb n:Nat)(bA:Option Addr)(bc:Nat)(bs:List Bf)(V:Value)(l:List St)(V':Value)(cnt':Int)(w':World):Prop where
 ext:Ext (g :: pb :: V.ownBlock.toList) w w'
 bld:Bld w' base g pb n bA bc bs V' l cnt'
 row:∀q,V'.ownBlock=some q->V.ownBlock=some q\/w.heap.size<=q
def Fr (H:Nat)(V:Value)(b:Nat):Prop:=H<=b/\V.ownBlock≠some b
def BodP (d base g pb n:Nat)(bA:Option Addr)(bc:Nat)(bs:List Bf)(V:Value)(l:List St)(w:World)(e:Ending)(w':World):Prop:=
 ∃(A:Option Addr) (c:Nat) (ss:List St) (V':Value) (cnt':Int),e=.returned (.slice A ss.length c)/\Aq (Fr w.heap.size V') 20 w' A 21 stC ss/\(∀s∈ss,StA (Fr w.heap.size V') (20+d) w' s)/\Aa0 w base g pb n bA bc bs V l V' cnt' w'
def LooP (d base g pb n:Nat)(bA:Option Addr)(bc:Nat)(bs:List Bf)(V:Value)(l:List St)(w:World)(e:Ending)(w':World):Prop:=
 ∃(s:St) (V':Value) (cnt':Int),e=.returned (stV s)/\StA (Fr w.heap.size V') (20+d) w' s/\Aa0 w base g pb n bA bc bs V l V' cnt' w'
def Alg (d:Nat):Prop:=∀(base g pb n bc:Nat) (bA:Option Addr) (bs:List Bf) (V:Value) (l:List St) (cnt:Int) (many:Nat) (w:World),many<=3->l.length+d<=3->Bld w base g pb (n+BD d) bA bc bs V l cnt->Calls prog 104 #[.pointer (some pb),d,many] w (BodP d base g pb n bA bc bs V l w)
def Amr (nm:ByteArray)(lo hi step:Int):SH:=⟨1,nm,lo,hi,step,false,none,0,[],none,0,0,afZ,.mk exZ []⟩
def Aa1 (H:Nat):Bc:=⟨Nat,0,fun b=>.pointer (some ⟨b,0,none⟩),fun b w=>H<=b/\Blk w b 43 zSt⟩
theorem Aa1.stays {H g:Nat}(hg:g<H):∀y w w',Ext [g] w w'->(Aa1 H).V y w->(Aa1 H).V y w':=fun(y:Nat) w w' hE h=>⟨h.1,h.2.ext hE (fun hm=>by have h1:y=g:=jA.1 hm;have h2:H<=y:=h.1;omega)⟩
def loA (nm:ByteArray)(lo hi step:Int)(vec:Bool)(v:Value):Array Value:=#[.int .i64 1,.string nm,.int .i64 lo,.int .i64 hi,.int .i64 step,.bool vec,.slice none 0 0,v,.int .i64 0,.int .i64 0,.slice none 0 0,.int .i64 0,.int .i64 0,.int .i64 0,.int .i64 0,.int .i64 0,.int .i64 0,.int .i64 0,.int .i64 0,.slice none 0 0,.slice none 0 0]
theorem Wp (w:World):(Instr.buildSlice 27 1 #[(0,.agg zSt)]).run prog w=.ok (.slice (some w.heap.size) 1 1) (w.alloc (.cells zSt 43)):=by kernel_rfl
structure LoM (d:Nat)(w:World)(T:List Nat)(H base g pb n:Nat)(bA:Option Addr)(bc:Nat)(bs:List Bf)(V:Value)(lz:List St)(rb eb:Nat)(ar:Value->Array Value)(A:Option Addr)(c:Nat)(ss:List St)(V':Value)(cnt':Int)(wx:World):Prop where
 ext:Ext T w wx
 bld:Bld wx base g pb n bA bc bs V' lz cnt'
 res:Blk wx rb 43 zSt
 blk:Blk wx eb 43 (ar (.slice A ss.length c))
 seq:Aq (Fr H V') 20 wx A 21 stC ss
 kid:∀s∈ss,StA (Fr H V') (20+d) wx s
 row:∀q,V'.ownBlock=some q->(V.ownBlock=some q\/w.heap.size<=q)/\q≠eb/\q≠rb
set_option maxRecDepth 100000 in
theorem Agd (d:Nat)(IH:Alg d)(base g pb n bc:Nat)(bA:Option Addr)(bs:List Bf)(V:Value)(l:List St)(cnt:Int)(w:World)(hl:l.length+(d+1)<=3)(h:Bld w base g pb (n+BD d+12000000000) bA bc bs V l cnt) :
  Calls prog 154 #[.pointer (some pb),.int .i64 ((d+1:Nat):Int)] w (LooP (d+1) base g pb n bA bc bs V l w):=by
 obtain⟨VA,vc,rfl,-,-⟩:=Be h.row;have HD:=hd h;have bE:=hd IH;have HL:=hd hl;have aJ:Hd (base<=w.heap.size):=hd (by have:=h.bpb;have:=h.blk.lt;omega);have cx:=hd h.pg;clear h IH hl;generalize ct:((d+1:Nat):Int)=D1;have cy:D1-1=(d:Int):=by omega
 clear ct;have cz:d<=2:=by have:=HL.o;omega
 go_enter func154,ntmps154
 go_upto_region 1 with fail
 have aK:=hd ((jF [g] w).alloc (.cells zSt 43));have ax:=hd (jK w 43 zSt);have aa:=hd (HD.o.grow ((jF [] w).alloc (.cells zSt 43)));unfold zSt at aK ax aa;generalize World.alloc w _=w1 at *;change Hd (Blk w1 w.heap.size 43 zSt) at ax;generalize aI:w.heap.size=rb at *;have a2:=hd aI;have ay:Hd (g<rb):=hd (by rw[<-aI];exact HD.o.stm.lt);have bF:Hd (pb<rb):=hd (by rw[<-aI];exact HD.o.blk.lt);clear aI;refine rgC 12 1 base g (n+BD d+11000000000) [(4,Eb 5 g),(5,Ea),(10,Eb 4 g),(11,Ea)] (Am.cons Eb.stays (Am.cons Ea.stays (Am.cons Eb.stays (Am.cons Ea.stays Am.nil)))) (aa.o.stm.less (by omega)) ?_
 simp only[TK]
 repeat(refine dE (fun wr nr hJ=>by(have hB:=aa.o.draw hJ.1 hJ.2;have qp:=hB.blk.cell;have a6:=hB.blk.lt;unfold Dj at qp;clear hB);clear hJ;exact CL) ?_;simp only[PT])
 refine Fl (Eb 5 g) rfl rfl ?_ ?_
 ·intro wr hE hf;refine⟨wr.heap.size,.cells (Cq [0,0,0,1,-1]) 3,?_,[0,0,0,1,-1],rfl,jK _ _ _,by have:=hE.size;have:=aa.o.stm.lt;omega⟩
  go_simp;try first|rfl|exact⟨rfl,rfl⟩
 intro (b1:Nat);simp only[PT];dsimp only[Eb];refine Cc Ea rfl rfl ?_ ?_
 ·refine EC fun wr m hE hS hm hf=>?_
  obtain⟨xs,hx,hB,aw⟩:=(Dc hf 4 (by kernel_rfl):(Eb 5 g).V b1 wr);have hp:=Cf base g m b1 5 3 xs wr hS hB aw (by omega);rw[hx] at hp;refine hp.mono ?_
  rintro e w' ⟨r,rfl,_,ae,af⟩;exact⟨r,rfl,trivial,ae,af⟩
 intro (lo:Int);simp only[PT];dsimp only[Ea]
 repeat(refine dE (fun wr nr hJ=>by(have hB:=aa.o.draw hJ.1 hJ.2;have qp:=hB.blk.cell;have a6:=hB.blk.lt;unfold Dj at qp;clear hB);clear hJ;exact CL) ?_;simp only[PT])
 refine Fl (Eb 4 g) rfl rfl ?_ ?_
 ·intro wr hE hf;refine⟨wr.heap.size,.cells (Cq [1,1,1,2]) 3,?_,[1,1,1,2],rfl,jK _ _ _,by have:=hE.size;have:=aa.o.stm.lt;omega⟩
  go_simp;try first|rfl|exact⟨rfl,rfl⟩
 intro (b2:Nat);simp only[PT];dsimp only[Eb];refine Cc Ea rfl rfl ?_ ?_
 ·refine EC fun wr m hE hS hm hf=>?_
  obtain⟨xs,hx,hB,aw⟩:=(Dc hf 10 (by kernel_rfl):(Eb 4 g).V b2 wr);have hp:=Cf base g m b2 4 3 xs wr hS hB aw (by omega);rw[hx] at hp;refine hp.mono ?_
  rintro e w' ⟨r,rfl,_,ae,af⟩;exact⟨r,rfl,trivial,ae,af⟩
 intro (step:Int);simp only[PT];dsimp only[Ea];refine Ak (fun w2 hJ hF=>?_)
 have an:=hd ((aa.o.draw hJ.1 hJ.2).less (m:=n+BD d+11000000000) (by omega));have b4:=hd (aK.o.trans hJ.1);have aL:=hd (ax.o.ext hJ.1 (by rw[jA];have:=ay.o;omega));clear hJ hF aa aK ax;go_upto_region 2 with fail
 have cB:=aL.o.lt;generalize hH:w2.heap.size=H2 at *;have bG:=hd hH;have az:Hd (g<H2):=hd (by have:=ay.o;omega);clear hH;refine rgC 20 1 base g (n+BD d+10900000000) [(14,Eb 7 g),(15,Ea),(19,Aa1 H2)] (Am.cons Eb.stays (Am.cons Ea.stays (Am.cons (Aa1.stays az.o) Am.nil))) (an.o.stm.less (by omega)) ?_
 simp only[TK]
 repeat(refine dE (fun wr nr hJ=>by(have hB:=an.o.draw hJ.1 hJ.2;have qp:=hB.blk.cell;have a6:=hB.blk.lt;unfold Dj at qp;clear hB);clear hJ;exact CL) ?_;simp only[PT])
 refine Fl (Eb 7 g) rfl rfl ?_ ?_
 ·intro wr hE hf;refine⟨wr.heap.size,.cells (Cq [0,1,2,3,4,5,6]) 3,?_,[0,1,2,3,4,5,6],rfl,jK _ _ _,by have:=hE.size;have:=an.o.stm.lt;omega⟩
  go_simp;try first|rfl|exact⟨rfl,rfl⟩
 intro (b3:Nat);simp only[PT];dsimp only[Eb];refine Cc Ea rfl rfl ?_ ?_
 ·refine EC fun wr m hE hS hm hf=>?_
  obtain⟨xs,hx,hB,aw⟩:=(Dc hf 14 (by kernel_rfl):(Eb 7 g).V b3 wr);have hp:=Cf base g m b3 7 3 xs wr hS hB aw (by omega);rw[hx] at hp;refine hp.mono ?_
  rintro e w' ⟨r,rfl,_,ae,af⟩;exact⟨r,rfl,trivial,ae,af⟩
 intro (r3:Int);simp only[PT];dsimp only[Ea]
 repeat(refine dE (fun wr nr hJ=>by clear hJ;exact CL) ?_;simp only[PT])
 generalize cu:wrap64 (lo+r3)=hi;clear cu;generalize bD:Utf8.encode _=nm;have bH:Hd (nm.size<=20):=hd (by rw[<-bD];exact nt (encode_size_le _) (by omega));clear bD;refine Fl (Aa1 H2) rfl rfl ?_ ?_
 ·intro wr hE hf;refine⟨wr.heap.size,.cells zSt 43,?_,by have:=hE.size;have:=bG.o;show H2<=wr.heap.size;omega,jK _ _ _⟩
  go_simp;try first|rfl|exact⟨rfl,rfl⟩
 intro (eb:Nat);simp only[PT];dsimp only[Aa1];refine Ak (fun w3 hJ hF=>?_)
 have hv:(Aa1 H2).V eb w3:=hF 19;have HV:=hd hv;have b5:=hd ((an.o.draw hJ.1 hJ.2).less (m:=n+BD d+10900000000) (by omega));have b6:=hd (b4.o.trans hJ.1);have b7:=hd (aL.o.ext hJ.1 (by rw[jA];have:=ay.o;omega));clear hJ hF hv an b4 aL;have b8:=hd (show(loA nm lo hi step false (.slice none 0 0)).all (·.oneCell')=true from Da (Amr nm lo hi step) 0 exZ 0);have aM:=hd (show(prog.info? 43).map (·.size)=some (loA nm lo hi step false (.slice none 0 0)).size from Dx);have bI:=hd (show zSt.size=(loA nm lo hi step false (.slice none 0 0)).size from rfl)
 go_upto_region 3 with(
             refine Ba rfl 43 _ _ rfl eb (loA nm lo hi step false (.slice none 0 0)) zSt 43 rfl rfl HV.o.2 aM.o bI.o b8.o ?_
             intro w4 hB4 hE4;have ba:=hd hB4;have aA:=hd hE4;clear hB4 hE4)
 have a7:Hd (H2<=eb):=hd HV.o.1;have cC:=ay.o;have cD:=bF.o;have ao:=hd (b5.o.far aA.o HD.o (fun q hq=>by rw[jA.1 hq];have:=a7.o;have:=a2.o;omega));have bb:Hd (Ext (g :: pb :: (Value.slice VA l.length vc).ownBlock.toList) w w4):=hd ((b6.o.mono fun x hx=>.inl (by rw[jA.1 hx];simp)).step aA.o fun x hx=>.inr (by rw[jA.1 hx];have:=a7.o;have:=a2.o;omega));have bd:=hd (b7.o.ext aA.o (by rw[jA];have:=a7.o;omega));clear b6 b7 HV aA b5;have qp:=ao.o.blk.cell;have aB:=ao.o.blk.frozen;have a6:=ao.o.blk.lt;unfold Dj at qp;have ag:=hd (ao.o.cnt' (wrap64 (cnt+1)));have aC:=hd (jL (b:=pb) (i:=4) (u:=.int .i64 (wrap64 (cnt+1))) (.inl (by simp)) (jF [pb] w4));go_upto_region 4 with fail
 generalize World.setCell w4 _ _=w5 at *;have aD:=hd (ba.o.ext aC.o (by rw[jA];have:=a7.o;omega));have aN:=hd (bd.o.ext aC.o (by rw[jA];omega));have aO:=hd (bb.o.trans (aC.o.mono fun x hx=>.inl (by rw[jA.1 hx];simp)));clear qp aB a6 ao ba bd bb aC;generalize wrap64 (cnt+1)=cnt2 at *;have be:=hd ag.o.vpb;have ab:Hd (w.heap.size<=w5.heap.size):=hd aO.o.size;have aP:Hd (l.length<=2):=hd (by have:=HL.o;omega);have bJ:=hd (show stC (.mk (Amr nm lo hi step) [])=(loA nm lo hi step false (.slice none 0 0)).toList from rfl);have aQ:=hd (show(loA nm lo hi step false (.slice none 0 0)).size=21 from rfl)
 have ac:Hd (eb∉pb :: (Value.slice VA l.length vc).ownBlock.toList):=hd (by
  intro hm;rcases jE.1 hm with e|e
  ·have:=a7.o;omega
  ·have:=(HD.o.row.lt eb (jC.1 e)).2;have:=a7.o;have:=a2.o;omega)
 refine rgP base pb g bs.length bc bA VA vc l cnt2 rfl (fun i hi oi ho=>by rcases hi with rfl|rfl|rfl<;>(cases ho;rfl)) ag.o.row ag.o.blk ?_
 simp only[TK];have bf:pb<w5.heap.size:=ag.o.blk.lt
 repeat(refine dEU (fun wr nr hg hJ=>by(clear hg);clear hJ;exact CL) ?_;simp only[PT])
 refine dEU (fun wr nr hg hJ=>by(have hB:=hJ.blk (hg.later 12 (by kernel_rfl));have qp:=hB.cell;have a6:=hB.lt;unfold Dj at qp;clear hB hg);clear hJ;exact CL) ?_
 simp only[PT];refine Jc rfl rfl ⟨.agg (loA nm lo hi step false (.slice none 0 0)),fun wr nr hg hJ=>?_,?_⟩
 ·exact Dp 43 _ rfl eb 0 rfl (loA nm lo hi step false (.slice none 0 0)) (aD.o.ext hJ.ext ac.o).wide _ underlying43 rfl aM.o
 simp only[PT]
 repeat(refine dEU (fun wr nr hg hJ=>by(clear hg);clear hJ;exact CL) ?_;simp only[PT])
 refine Cl (Dg (.slice (some w5.heap.size) 1 1)) rfl rfl (fun wr nr hg hJ hf=>?_) ?_
 ·obtain⟨h1,h2,h3⟩:=hJ.make hg.mine;refine⟨(),_,?_,trivial,h2,h3⟩
  rw[<-h1];refine As rfl _ wr _ _ (.agg zSt) ?_ ?_
  ·rfl
  ·exact Wp wr
 rintro⟨⟩;simp only[PT];dsimp only[Dg];refine Cl (sV7 base (.slice VA l.length vc) l w5.heap.size) rfl rfl (fun wr nr hg hJ hf=>?_) ?_
 ·obtain⟨g8,c8,w',h1,h2,h3,h4⟩:=hJ.app 27 hg.mine (hg.done 6 (by kernel_rfl)) (hg.later 12 (by kernel_rfl)) aP.o (by have:=aJ.o;have:=a2.o;have:=ab.o;omega) be.o bf;refine⟨(g8,c8),w',?_,h2,h3,h4⟩
  refine Qw rfl _ wr w' _ _ _ ?_ ?_ h1
  ·rfl
  ·rfl
 rintro⟨g8,c8⟩;simp only[PT];dsimp only[sV7];have cE:(l.length:Int)<(l.length:Int)+1:=by omega
 repeat(refine dEU (fun wr nr hg hJ=>by(clear hg);clear hJ;exact CL) ?_;simp only[PT])
 refine Dd sUn rfl rfl (fun _=>rfl) (fun wr nr hg hJ hf=>?_) ?_
 ·have hv:(sV7 base (.slice VA l.length vc) l w5.heap.size).V (g8,c8) wr:=Dc hf 7 (by kernel_rfl);obtain⟨C,h1,h2,h3,h4⟩:=hJ.lay (hg.done 7 (by kernel_rfl)) (hg.done 6 (by kernel_rfl)) hv (.mk (Amr nm lo hi step) []) be.o bf (jD _);refine⟨(),_,?_,trivial,h3,h4⟩
  rw[bJ.o];refine Fj rfl _ wr g8 (l.length*21) (loA nm lo hi step false (.slice none 0 0)) C 43 ?_ ?_ h1 (by rw[aQ.o];exact h2) aM.o b8.o
  ·rfl
  ·rfl
 rintro⟨⟩;simp only[PT];dsimp only[sUn]
 repeat(refine dEU (fun wr nr hg hJ=>by(clear hg);clear hJ;exact CL) ?_;simp only[PT])
 refine Dd (Ac7 base (.slice VA l.length vc) l w5.heap.size pb g bA bs.length bc cnt2) rfl rfl (fun _=>rfl) (fun wr nr hg hJ hf=>?_) ?_
 ·have hv:(sV7 base (.slice VA l.length vc) l w5.heap.size).V (g8,c8) wr:=Dc hf 7 (by kernel_rfl);have bh:=hg.mine;obtain⟨h1,h2,h3,h4⟩:=hJ.ptr (hg.done 7 (by kernel_rfl)) (hg.done 6 (by kernel_rfl)) bh hv (.slice (some g8) (l.length+1) c8) (Ai2 g bA bs.length bc l.length cnt2 (g8,c8)) rfl;refine⟨(g8,c8),_,?_,⟨h1,h2⟩,h3,h4⟩
  have hB:=hJ.blk bh;have qp:=hB.cell;have aB:=hB.frozen;have a6:=hB.lt;unfold Dj at qp;clear hB hv h1 h2 h3 h4 hJ hf hg;go_simp
 rintro⟨g9,c9⟩;simp only[PT];dsimp only[Ac7];refine Cp (fun wz r13 hr hJ hF=>?_)
 have hz:(Ac7 base (.slice VA l.length vc) l w5.heap.size pb g bA bs.length bc cnt2).V (g9,c9) wz:=hF 12;have ah:=hd hJ.ext;obtain⟨s9,bt⟩:=ag.o.push aP.o ah.o hz.1 hz.2;have aE:=hd bt;have aF:=hd hz.2.1;dsimp only at aE aF;clear hJ hF hr hz bt;have bK:g<w.heap.size:=by have:=a2.o;omega
 have bL:pb<w.heap.size:=by have:=a2.o;omega
 have bM:=aD.o.lt
 have ai:Hd (LoS w (g :: pb :: (Value.slice VA l.length vc).ownBlock.toList) wz.heap.size base g pb (n+BD d+10900000000) bA bc bs (.slice (some g9) (l.length+1) c9) (l ++ [s9]) cnt2 rb eb zSt (loA nm lo hi step false) (.slice none 0 0) [] wz):=hd (by
  refine⟨aO.o.trans (ah.o.mono fun x hx=>.inl (jI _ hx)),aE.o,aN.o.ext ah.o (fun hm=>?_),aD.o.ext ah.o ac.o,Ca _ _ _ _,by simp,fun q hq=>⟨(aE.o.row.lt q hq).2,fun e=>?_⟩,fun q hq=>(HD.o.buf.lt q hq).2,by simp,Nat.le_of_eq a2.o,by have:=a7.o;omega,by have:=ah.o.size;omega,bK,bL,jD _⟩
  ·rcases jE.1 hm with e|e
   ·omega
   ·have:=(HD.o.row.lt rb (jC.1 e)).2;have:=a2.o;omega
  ·have aG:q=g9:=by cases hq;rfl
   rcases aF.o with e1|e1
   ·exact ac.o (by rw[<-e,aG];exact jI _ (jC.2 e1))
   ·omega)
 have aR:Hd (∀q,(Value.slice (some g9) (l.length+1) c9).ownBlock=some q->(Value.slice VA l.length vc).ownBlock=some q\/w.heap.size<=q):=hd fun q hq=>by
  have aG:q=g9:=by cases hq;rfl
  rcases aF.o with e|e
  ·exact .inl (by rw[aG];exact e)
  ·exact .inr (by have:=ab.o;omega)
 have aS:Hd (∀q,(Value.slice (some g9) (l.length+1) c9).ownBlock=some q->q≠rb):=hd fun q hq=>by
  have aG:q=g9:=by cases hq;rfl
  rcases aF.o with e|e
  ·have:=(HD.o.row.lt g9 e).2;have:=a2.o;omega
  ·have:=aN.o.lt;omega
 clear aO aN aD aE ah ag ab;have cF:rb<wz.heap.size:=ai.o.res.lt;have cG:Hd (wz.heap.size<=wz.heap.size):=hd (jD _);generalize cv:wz.heap.size=Hz at *;have qp:=ai.o.bld.blk.cell;have a6:=ai.o.bld.blk.lt;unfold Dj at qp;go_upto_if 61 with(go_at_call 13;refine(Gt base g (n+BD d+10800000000) 5 _ (ai.o.bld.stm.less (by omega)) (by omega)).mono ?_;rintro e w6 ⟨fl,rfl,hE,hS⟩)
 have a1:=hd (ai.o.draw hE hS);clear hE hS ai qp a6;go_cut [] (fun wx=>∃(vec:Bool) (A:Option Addr) (c:Nat) (ss:List St) (V':Value) (cnt':Int),Hd (LoM d w (g :: pb :: (Value.slice VA l.length vc).ownBlock.toList) Hz base g pb n bA bc bs (.slice VA l.length vc) (l ++ [s9]) rb eb (loA nm lo hi step vec) A c ss V' cnt' wx))
 case first=>
  cases fl
  ·skip
   go_wp2_with fail
   refine(bE.o base g pb n bc bA bs _ (l ++ [s9]) cnt2 3 w6 (by omega) (by have:=HL.o;simp;omega) (a1.o.bld.less (by omega))).mono ?_
   rintro e w7 ⟨A,c,ss,V',cnt',rfl,hq,hs,hA⟩;have cH:Hz<=w6.heap.size:=a1.o.hH;have bN:=a1.o.ebH;have aT:=a1.o.hz
   have ap:eb∉g :: pb :: (Value.slice (some g9) (l.length+1) c9).ownBlock.toList:=fun hm=>by
    rcases jE.1 hm with e|hm
    ·have:=a7.o;omega
    ·rcases jE.1 hm with e|hm
     ·have:=a7.o;omega
     ·exact(aT _ (jC.1 hm)).2 rfl
   have aq:=hd (a1.o.blk.ext hA.ext ap)
   have bO:=hd (a1.o.res.ext hA.ext (fun hm=>by
    rcases jE.1 hm with e|hm
    ·omega
    ·rcases jE.1 hm with e|hm
     ·omega
     ·exact aS.o _ (jC.1 hm) rfl))
   have bP:Hd (Ext (g :: pb :: (Value.slice VA l.length vc).ownBlock.toList) w w7):=hd (a1.o.ext.step hA.ext fun x hx=>by
    rcases jE.1 hx with e|hx
    ·exact .inl (by rw[e];simp)
    ·rcases jE.1 hx with e|hx
     ·exact .inl (by rw[e];simp)
     ·exact(aR.o x (jC.1 hx)).imp (fun e=>jI _ (jI _ (jC.2 e))) id)
   have bQ:=hd hq;have bR:=hd hs;have bS:=hd hA.bld
   have bi:Hd (∀q,V'.ownBlock=some q->((Value.slice VA l.length vc).ownBlock=some q\/w.heap.size<=q)/\q≠eb/\q≠rb):=hd fun q hq=>by
    rcases hA.row q hq with e|e
    ·exact⟨aR.o q e,(aT q e).2,aS.o q e⟩
    ·exact⟨.inr (by have:=a1.o.ext.size;omega),by omega,by omega⟩
   clear hq hs hA ap aT;have qe:=aq.o.cell;have bj:=aq.o.frozen;have aU:=aq.o.lt;unfold loA at qe;have a8:=hd (jL (b:=eb) (i:=7) (u:=.slice A ss.length c) (.inl (by simp)) (jF [eb] w7));have aV:=hd (aq.o.set_' 7 (.slice A ss.length c) (loA nm lo hi step false (.slice A ss.length c)) rfl);have aW:w.heap.size<=eb:=by have:=a2.o;have:=a7.o;omega
   go_wp2_with fail
   go_meet
   have bk:∀b,Fr w6.heap.size V' b->Fr Hz V' b:=fun b hb=>⟨by have:=hb.1;omega,hb.2⟩
   have bl:∀x∈[eb],¬Fr Hz V' x:=fun x hx hh=>by rw[jA.1 hx] at hh;have:=hh.1;omega
   refine⟨false,A,c,ss,V',cnt',hd ⟨bP.o.step a8.o fun x hx=>.inr (by rw[jA.1 hx];exact aW),bS.o.one a8.o aq.o (fun k hk=>(bi.o k hk).2.1) (by have:=aJ.o;have:=a2.o;omega),bO.o.ext a8.o (by rw[jA];have:=a7.o;omega),aV.o,
    Aq.ext (Aq.mono bQ.o (fun b _ hb=>bk b hb) (jD _)) a8.o bl,fun s hs=>StA.ext a8.o bl (StA.mono (fun b _ hb=>bk b hb) (jD _) (bR.o s hs)),bi.o⟩⟩
  ·skip
   have qp:=a1.o.bld.blk.cell;have a6:=a1.o.bld.blk.lt;unfold Dj at qp;go_wp2_with fail
   refine(Cr base g (n+BD d+10700000000) 1 2 _ (a1.o.bld.stm.less (by omega)) (by omega) (by omega)).mono ?_
   rintro e w7 ⟨bC,rfl,cr,hE,hS⟩;obtain⟨kk,rfl⟩:∃k:Nat,bC=k:=⟨bC.toNat,by omega⟩;have bT:Hd (1<=kk/\kk<=2):=hd (by omega);have bU:=hd (a1.o.draw hE hS);clear hE hS cr qp a6 a1;have bm:100*KD 2=1000000000:=by decide
   have bV:=hd bm;clear bm
   obtain⟨F,bu,bv,bx⟩:∃F:Nat->Nat,F 0=n+BD d+10000000000/\(∀k,k<2->F k=F (k+1)+5000000000)/\∀k,n+BD d<=F k:=⟨fun k=>n+BD d+(2-k)*5000000000,by simp only[Nat.sub_zero],fun k hk=>by
    have e:2-k=(2-(k+1))+1:=by omega
    simp only[e,Nat.succ_mul];omega,fun k=>by simp only;omega⟩
   have bW:=hd bu;have bX:=hd bv;have bY:=hd bx;clear bu bv bx;go_wp2_with fail
   go_loopw [67] (fun i wr=>∃(k:Nat) (v:Value) (ss:List St),i=.int .i64 k/\k<=kk/\Hd (ss.length=k)/\Hd (LoS w (g :: pb :: (Value.slice VA l.length vc).ownBlock.toList) Hz base g pb (F k) bA bc bs (.slice (some g9) (l.length+1) c9) (l ++ [s9]) cnt2 rb eb zSt (loA nm lo hi step false) v ss wr)) (fun i _=>(kk-intOf i).toNat)
   case atStart=>exact⟨0,_,[],rfl,jQ _,hd rfl,hd (bU.o.less (by rw[bW.o];omega))⟩
   case round=>
    obtain⟨k,v,ss,rfl,hk,aZ,HO⟩:=hrel;have bZ:=bT.o.2;by_cases cw:k<kk
    ·have c0:(k:Int)<kk:=by omega
     have cI:=hd cw;go_wp2_with fail
     generalize hH:wr.heap.size=H4 at *;have az:Hd (g<H4):=hd (by rw[<-hH];exact HO.o.bld.stm.lt);have c2:Hd (Hz<=H4):=hd (by rw[<-hH];exact HO.o.hH);have c5:Hd (∀q,v.ownBlock=some q->q<H4):=hd fun q hq=>by rw[<-hH];exact(HO.o.own.lt q hq).2
     refine rgC 5 1000000000 base g (F (k+1)) [(3,sSt H4),(4,Aaz H4)] (Am.cons (sSt.stays az.o) (Am.cons (Aaz.stays az.o) Am.nil)) (HO.o.bld.stm.less (by rw[bX.o k (by omega)];omega)) ?_
     simp only[TK]
     repeat(refine dE (fun wr nr hJ=>by(have hB:=HO.o.draw hJ.1 hJ.2;have qe:=hB.blk.cell;have aU:=hB.blk.lt;unfold loA at qe;clear hB);clear hJ;exact CL) ?_;simp only[PT])
     refine Cc (sSt H4) rfl rfl ?_ ?_
     ·refine EC fun wr m' hE hS hm hf=>?_
      refine(Ud base g pb m' bc _ bs _ (l ++ [s9]) cnt2 wr ((HO.o.bld.draw hE hS).less (by rw[bV.o];omega))).mono ?_
      rintro e w' ⟨s,rfl,hs,ae,af⟩;exact⟨s,rfl,hs.mono (fun b _ hb=>by have:=hE.size;omega) (jD _),ae,af⟩
     intro (s:St);simp only[PT];dsimp only[sSt];refine Fl (Aaz H4) rfl rfl ?_ ?_
     ·intro wq hE hf;have hv:(sSt H4).V s wq:=Dc hf 3 (by kernel_rfl);have h1:Ext [] wq (wq.alloc (.cells (stA s) 43)):=(jF _ _).alloc _;refine⟨(wq.heap.size,s),.cells (stA s) 43,?_,by have:=hE.size;show H4<=wq.heap.size;omega,jK _ _ _,StA.ext h1 (by simp) hv⟩
      refine As rfl _ wq _ _ (stV s) ?_ ?_
      ·rfl
      ·exact No wq s
     rintro⟨kb,y⟩;simp only[PT];dsimp only[Aaz];refine Ak (fun wy hJ hF=>?_)
     have hv:(Aaz H4).V (kb,y) wy:=hF 4;have HV:=hd hv;have aj:=hd ((HO.o.draw hJ.1 hJ.2).less (m:=F (k+1)) (by omega));have c6:Hd (StA (fun b=>Hz<=b/\v.ownBlock≠some b) 20 wy y):=hd (StA.mono (fun b _ hb=>⟨nt c2.o hb,fun e=>by have:=c5.o b e;omega⟩) (jD _) hv.2.2);clear hJ hF hv;obtain⟨i0,cn,co,cp,cq⟩:=Jy;have cJ:ss.length<2:=by rw[aZ.o];omega
     go_wp2_with (
      refine wpList_append_lies _ rfl _ _ 27 rfl Hz 43 i0 _ 21 256 underlying27 cn co cp cq rfl (by decide) v ss.length (ss.flatMap stC) rfl aj.o.own ⟨kb,0,none⟩ 1 1 (stC y) rfl (Cw y) ?c1 (Lr y) (by omega) ?c3 ?c4 aj.o.hH _ rfl ?_
      case c1=>intro j u hj;rw[Addr.add_mk,Nat.zero_add,HV.o.2.1.cell,<-Array.getElem?_toList,<-Hs];exact hj
      case c3=>unfold maxLen;omega
      case c4=>omega
      intro g8 c8 w8 ho8 hg8 hi8 ha8;have a8:Hd (Ext v.ownBlock.toList wy w8):=hd ((jF _ wy).grown hg8 fun q hq=>.inl (jC.2 hq));have c7:=hd (aj.o.more a8.o (k:=7) (fun a b=>rfl) ho8 (hi8.imp id fun e=>Nat.le_of_eq e.symm) c6.o);have aH:=aj.o.blk.ext a8.o fun hm=>by have:=Ae aj.o.own _ (jC.1 hm);have:=aj.o.ebH;omega
      have qe:=aH.cell;have bj:=aH.frozen;have aU:=aH.lt;unfold loA at qe;clear ho8 hg8 hi8 ha8 aH)
     go_roundw
     case rel=>exact⟨k+1,_,ss ++ [y],by go_num,by omega,hd (by rw[jG,aZ.o];rfl),c7⟩
     case measure=>simp[intOf];omega
    ·have qe:=HO.o.blk.cell;have bj:=HO.o.blk.frozen;have aU:=HO.o.blk.lt;unfold loA at qe;have ad:=hd (HO.o.put (C':=loA nm lo hi step true) 5 (.bool true) rfl);go_wp2_with fail
     go_meet
     obtain⟨A,c,rfl,-,-⟩:=Be ad.o.own;obtain⟨-,hq,hs⟩:=ad.o.body (by rw[aZ.o];omega) rfl;have hz:=ad.o.hz;exact⟨true,A,c,ss,_,cnt2,hd ⟨ad.o.ext,ad.o.bld.less (by have:=bY.o k;omega),ad.o.res,ad.o.blk,Aq.mono hq (fun b _ hb=>⟨hb,fun e=>by have:=(hz b e).1;omega⟩) (jD _),fun s hs'=>StA.mono (fun b _ hb=>⟨hb,fun e=>by have:=(hz b e).1;omega⟩) (by omega) (hs s hs'),fun q hq=>⟨aR.o q hq,(hz q hq).2,aS.o q hq⟩⟩⟩
 case rest=>
  obtain⟨vec,A,c,ss,V',cnt',HM⟩:=hcut;clear a1;obtain⟨cO,am,bz,b0,bB⟩:=Be HM.o.bld.row;obtain⟨q,hq,-,cP⟩:=bB (by simp);subst hq;have bn:(l ++ [s9]).length=l.length+1:=by simp
  rw[bn] at bz b0;subst bz;have cK:l.length<=am:=by omega
  have ca:(l.length:Int)<=(am:Int):=by omega
  have bo:=hd HM.o.bld;have cL:=hd (HM.o.row q rfl);clear bB bn;have cM:l.length<=2:=aP.o;go_upto_region 12 with fail
  refine Dz 12 (JE _) (Ext []) (Bj []) (by kernel_rfl) (by kernel_rfl) JE.less Am.nil JE.start ?_
  simp only[TK]
  repeat(refine dE (fun wr nr hJ=>by(have hB:=bo.o.blk.ext hJ (by simp);have qp:=hB.cell;have a6:=hB.lt;unfold Dj at qp;clear hB);clear hJ;exact CL) ?_;simp only[PT])
  refine Ak (fun wp hJ hF=>?_)
  have ak:=hd hJ;clear hJ hF;have au:=hd (bo.o.grow ak.o);have bp:=hd (HM.o.blk.ext ak.o (by simp));have bq:=hd (HM.o.res.ext ak.o (by simp));have qp:=au.o.blk.cell;have aB:=au.o.blk.frozen;have a6:=au.o.blk.lt;unfold Dj at qp;have cb:=hd au.o.pop;have al:=hd (jL (b:=pb) (i:=3) (u:=.slice (some q) l.length am) (.inl (by simp)) (jF [pb] wp));go_upto_region 13 with fail
  generalize World.setCell wp _ _=wo at *;have cN:pb≠eb:=by have:=a7.o;omega
  have ce:=hd (bp.o.ext al.o (by rw[jA];omega));have br:=hd (bq.o.ext al.o (by rw[jA];omega));have aX:∀x∈[pb],¬Fr Hz (.slice (some q) (l.length+1) am) x:=fun x hx hh=>by rw[jA.1 hx] at hh;have:=hh.1;omega
  have cf:=hd (Aq.ext (Aq.ext HM.o.seq ak.o (by simp)) al.o aX);have cg:=hd (fun s hs=>StA.ext al.o aX (StA.ext ak.o (by simp) (HM.o.kid s hs)));have ch:=hd ((HM.o.ext.trans ak.o.nil).trans (al.o.mono fun x hx=>.inl (by rw[jA.1 hx];simp)));clear au bp bq al qp aB a6 aX;have ci:Hd (StA (Fr Hz (.slice (some q) l.length am)) (20+(d+1)) wo (.mk ⟨1,nm,lo,hi,step,vec,none,0,[],A,c,0,afZ,.mk exZ []⟩ ss)):=hd (.mk _ _ (Aq.nil ..) (fun a h=>by cases h) (Aq.nil ..) (.mk _ _ (Aq.nil ..) (Aq.nil ..) (fun e h=>by cases h)) (by show Ap (.mk exZ [])<=20+(d+1);simp[Ap,Au];omega) (nt bH.o (by omega)) (by omega) (Aq.mono cf.o (fun b _ h=>h) (by omega)) (fun s hs=>StA.mono (fun b _ h=>h) (by omega) (cg.o s hs)));have cj:=hd (Rq (.mk ⟨1,nm,lo,hi,step,vec,none,0,[],A,c,0,afZ,.mk exZ []⟩ ss));have ck:Hd (Blk wo eb 43 (stA (.mk ⟨1,nm,lo,hi,step,vec,none,0,[],A,c,0,afZ,.mk exZ []⟩ ss))):=hd ce.o;have cl:=hd (Rr (.mk ⟨1,nm,lo,hi,step,vec,none,0,[],A,c,0,afZ,.mk exZ []⟩ ss));have aY:=hd (Mz (.mk ⟨1,nm,lo,hi,step,vec,none,0,[],A,c,0,afZ,.mk exZ []⟩ ss));have cm:=hd (show zSt.size=(stA (.mk ⟨1,nm,lo,hi,step,vec,none,0,[],A,c,0,afZ,.mk exZ []⟩ ss)).size from rfl);generalize St.mk ⟨1,nm,lo,hi,step,vec,none,0,[],A,c,0,afZ,.mk exZ []⟩ ss=sx at *;generalize stA sx=xa at *
  go_wp2_with (first
   | refine Ac rfl 43 _ rfl eb 0 rfl xa ck.o.wide _ underlying43 rfl aY.o ?_
   | (
     refine Ba rfl 43 _ _ rfl rb xa zSt 43 rfl rfl br.o aY.o cm.o cl.o ?_
     intro w8 hB8 hE8;have aV:=hd hB8;have a8:=hd hE8;clear hB8 hE8))
  refine bodyPost_ret (results_cell_row rfl _ _ rb 43 _ (0,0) _ rfl aV.o underlying43 rfl aY.o) rfl ?_
  rw[<-cj.o];refine⟨sx,.slice (some q) l.length am,cnt',rfl,StA.mono (fun b _ hb=>⟨by have:=hb.1;have:=a2.o;omega,hb.2⟩) (jD _) (StA.ext a8.o (fun x hx hh=>by rw[jA.1 hx] at hh;have:=hh.1;omega) ci.o),ch.o.step a8.o (fun x hx=>.inr (by rw[jA.1 hx];exact Nat.le_of_eq a2.o)),cb.o.one a8.o br.o (fun k hk=>by have:=(HM.o.row k hk).2.2;exact this) (by have:=aJ.o;omega),fun k hk=>(HM.o.row k hk).1⟩
end
section
theorem AfA.ext' {P:Nat->Prop}{N:Nat}{w w':World}{S:List Nat}(hE:Ext S w w')(hS:∀x∈S,¬P x){a:Af}(h:AfA P N w a):AfA P N w' a:=Aq.ext h hE hS
theorem AfA.mono' {P Q:Nat->Prop}{N M:Nat}{w:World}(hP:∀b,b<w.heap.size->P b->Q b)(hN:N<=M){a:Af}(h:AfA P N w a):AfA Q M w a:=Aq.mono h hP hN
theorem Pk (a:Af):(afC a).length=2:=rfl
structure LoF (w:World)(T:List Nat)(H base g pb n:Nat)(bA:Option Addr)(bc:Nat)(bs:List Bf)(Vz:Value)(lz:List St)(cnt:Int)(eb:Nat)(C:Value->Array Value)(v:Value)(ss:List Af)(wx:World):Prop where
 ext:Ext T w wx
 bld:Bld wx base g pb n bA bc bs Vz lz cnt
 blk:Blk wx eb 43 (C v)
 own:wx.ownsRow H 38 2 v ss.length (ss.flatMap afC)
 kid:∀s∈ss,AfA (fun b=>H<=b/\v.ownBlock≠some b) 20 wx s
 hz:∀q,Vz.ownBlock=some q->q<H/\q≠eb
 hb:∀q,(Value.slice bA bs.length bc).ownBlock=some q->q<w.heap.size
 tg:g∈T
 eb0:w.heap.size<=eb
 ebH:eb<H
 g0:g<w.heap.size
 p0:pb<w.heap.size
 hH:H<=wx.heap.size
section
variable {w wx wy:World} {T:List Nat} {H base g pb n m bc:Nat} {bA:Option Addr} {bs:List Bf} {Vz:Value} {lz:List St} {cnt:Int} {eb:Nat} {C:Value->Array Value} {v:Value} {ss:List Af}
theorem LoF.draw (h:LoF w T H base g pb n bA bc bs Vz lz cnt eb C v ss wx)(hE:Ext [g] wx wy)(hS:Stm wy base g m):LoF w T H base g pb m bA bc bs Vz lz cnt eb C v ss wy:=by
 have h0:=h.g0;have h2:=h.eb0;have h3:=h.ebH
 exact⟨h.ext.trans (hE.mono fun x hx=>.inl (by rw[jA.1 hx];exact h.tg)),h.bld.draw hE hS,h.blk.ext hE (by rw[jA];omega),
  Ah h.own hE fun q hq=>by have:=Ae h.own q hq;rw[jA];omega,fun x hx=>AfA.ext' hE (fun y hy hh=>by rw[jA.1 hy] at hh;have:=hh.1;omega) (h.kid x hx),h.hz,h.hb,h.tg,h.eb0,h.ebH,h.g0,h.p0,nt h.hH hE.size⟩
theorem LoF.less (h:LoF w T H base g pb n bA bc bs Vz lz cnt eb C v ss wx)(hm:m<=n):LoF w T H base g pb m bA bc bs Vz lz cnt eb C v ss wx:=⟨h.ext,h.bld.less hm,h.blk,h.own,h.kid,h.hz,h.hb,h.tg,h.eb0,h.ebH,h.g0,h.p0,h.hH⟩
theorem LoF.bldx (h:LoF w T H base g pb n bA bc bs Vz lz cnt eb C v ss wx){S:List Nat}(hE:Ext S wx wy)(hS:∀q∈S,H<=q\/q=eb):Bld wy base g pb n bA bc bs Vz lz cnt/\Ext T w wy:=by
 have h0:=h.g0;have h2:=h.eb0;have h3:=h.ebH;have hb:=h.bld.bpb;have hp:=h.p0;refine⟨?_,h.ext.step hE fun x hx=>.inr (by rcases hS x hx with e|e<;>omega)⟩
 refine⟨h.bld.stm.ext hE (fun hm=>by rcases hS _ hm with e|e<;>omega) (fun q hq=>by rcases hS _ hq with e|e<;>omega),h.bld.blk.ext hE (fun hm=>by rcases hS _ hm with e|e<;>omega),h.bld.bpb,Ah h.bld.buf hE fun q hq hm=>?_,Ah h.bld.row hE fun q hq hm=>?_,h.bld.bne,h.bld.b9,h.bld.bsz,h.bld.l3⟩
 ·rcases hS _ hm with e|e
  ·have:=h.hb q hq;omega
  ·exact Cb h.bld.buf h.blk (by decide) q hq e
 ·rcases hS _ hm with e|e
  ·have:=(h.hz q hq).1;omega
  ·exact(h.hz q hq).2 e
theorem LoF.more (h:LoF w T H base g pb n bA bc bs Vz lz cnt eb C v ss wx)(hE:Ext v.ownBlock.toList wx wy){g8 c8 k:Nat}{s:Af}(hC:∀a b,(C a).setIfInBounds k b=C b)
  (hO:wy.ownsRow H 38 2 (.slice (some g8) (ss.length+1) c8) (ss.length+1) (ss.flatMap afC ++ afC s)) (hg8:v.ownBlock=some g8\/wx.heap.size<=g8) (hs:AfA (fun b=>H<=b/\v.ownBlock≠some b) 20 wx s) :
  LoF w T H base g pb n bA bc bs Vz lz cnt eb C (.slice (some g8) (ss.length+1) c8) (ss ++ [s]) (wy.setCell ⟨eb,k,none⟩ (.slice (some g8) (ss.length+1) c8)):=by
 have a1:Ext [eb] wy (wy.setCell ⟨eb,k,none⟩ (.slice (some g8) (ss.length+1) c8)):=jL (.inl (by simp)) (jF _ _);have g0:=h.g0;have h2:=h.eb0;have h3:=h.ebH;have hq:∀q∈v.ownBlock.toList,H<=q:=fun q hq=>Ae h.own q (jC.1 hq)
 have a8:H<=g8:=Ae hO g8 rfl;have a2:Ext (eb :: v.ownBlock.toList) wx (wy.setCell ⟨eb,k,none⟩ (.slice (some g8) (ss.length+1) c8)):=(hE.mono fun x hx=>.inl (jI _ hx)).trans (a1.mono fun x hx=>.inl (by rw[jA.1 hx];simp));have hb:Blk wy eb 43 (C v):=h.blk.ext hE fun hm=>by have:=hq _ hm;omega
 have step:∀z,AfA (fun b=>H<=b/\v.ownBlock≠some b) 20 wx z->AfA (fun b=>H<=b/\(Value.slice (some g8) (ss.length+1) c8).ownBlock≠some b) 20 (wy.setCell ⟨eb,k,none⟩ (.slice (some g8) (ss.length+1) c8)) z:=fun z hz=>by
  have z1:=AfA.mono' (Q:=fun b=>H<=b/\b≠g8/\v.ownBlock≠some b) (fun b hb hh=>⟨hh.1,(by rintro rfl;rcases hg8 with e|e;exact hh.2 e;omega),hh.2⟩) (jD _) hz;have z2:=AfA.ext' hE (fun y hy hh=>hh.2.2 (jC.1 hy)) z1;have z3:=AfA.ext' a1 (fun y hy hh=>by rw[jA.1 hy] at hh;have:=hh.1;omega) z2;exact AfA.mono' (fun b _ hh=>⟨hh.1,fun e=>by cases e;exact hh.2.1 rfl⟩) (jD _) z3
 obtain⟨a6,a7⟩:=h.bldx a2 fun q hqq=>by
  rcases jE.1 hqq with e|e
  ·exact .inr e
  ·exact .inl (hq q e)
 refine⟨a7,a6,by have:=hb.set_ k (.slice (some g8) (ss.length+1) c8);rw[hC] at this;exact this,?_,fun x hx=>?_,h.hz,h.hb,h.tg,h.eb0,h.ebH,h.g0,h.p0,nt h.hH a2.size⟩
 ·rw[jG,List.flatMap_append];have e:List.flatMap afC [s]=afC s:=by simp
  rw[e];exact Ah hO a1 fun q hqq=>by have:=Ae hO q hqq;rw[jA];omega
 ·rcases jN.1 hx with hx|hx
  ·exact step x (h.kid x hx)
  ·rw[jA.1 hx];exact step s hs
theorem LoF.conds (h:LoF w T H base g pb n bA bc bs Vz lz cnt eb C v ss wx)(hl:ss.length<=20){A:Option Addr}{n0 c:Nat}(hv:v=.slice A n0 c):n0=ss.length/\Aq (fun b=>H<=b) 20 wx A 2 afC ss/\∀s∈ss,AfA (fun b=>H<=b) 20 wx s:=by
 subst hv;have hO:=h.own;obtain⟨A',c',e,-,-⟩:=Be hO;cases e
 exact⟨rfl,(Aq.own (P:=fun b=>H<=b) Pk hO hl (by decide) (fun q _ h1 _=>h1)).2,fun s hs=>AfA.mono' (fun b _ hb=>hb.1) (jD _) (h.kid s hs)⟩
end
structure BoX (d:Nat)(w:World)(u:Value)(ss:List St)(V':Value)(wx:World):Prop where
 own:wx.ownsRow w.heap.size 43 21 u ss.length (ss.flatMap stC)
 kid:∀s∈ss,StA (fun b=>w.heap.size<=b/\u.ownBlock≠some b/\V'.ownBlock≠some b) (20+d) wx s
 sep:∀q,u.ownBlock=some q->V'.ownBlock≠some q
 siz:w.heap.size<=wx.heap.size
section
variable {d:Nat} {w wx wy:World} {u V' V'':Value} {ss:List St}
theorem BoX.keep (h:BoX d w u ss V' wx){S:List Nat}(hE:Ext S wx wy)(hS:∀q∈S,q<w.heap.size\/V'.ownBlock=some q):BoX d w u ss V' wy:=
 ⟨Ah h.own hE fun q hq hm=>by
  rcases hS q hm with e|e
  ·have:=Ae h.own q hq;omega
  ·exact h.sep q hq e,fun s hs=>StA.ext hE (fun y hy hh=>by
  rcases hS y hy with e|e
  ·have:=hh.1;omega
  ·exact hh.2.2 e) (h.kid s hs),h.sep,nt h.siz hE.size⟩
theorem BoX.grow (h:BoX d w u ss V' wx)(hE:Ext [] wx wy):BoX d w u ss V' wy:=h.keep hE (by simp)
theorem BoX.row (h:BoX d w u ss V' wx)(hV:∀q,V''.ownBlock=some q->V'.ownBlock=some q\/wx.heap.size<=q):BoX d w u ss V'' wx:=
 ⟨h.own,fun s hs=>StA.mono (fun b hb hh=>⟨hh.1,hh.2.1,fun e=>by
  rcases hV b e with e1|e1
  ·exact hh.2.2 e1
  ·omega⟩) (jD _) (h.kid s hs),fun q hq e=>by
  rcases hV q e with e1|e1
  ·exact h.sep q hq e1
  ·have:=(h.own.lt q hq).2;omega,h.siz⟩
theorem BoX.more (h:BoX d w u ss V' wx)(hE:Ext u.ownBlock.toList wx wy){g8 c8:Nat}{s:St}(hO:wy.ownsRow w.heap.size 43 21 (.slice (some g8) (ss.length+1) c8) (ss.length+1) (ss.flatMap stC ++ stC s))(hg8:u.ownBlock=some g8\/wx.heap.size<=g8)
  (hV:∀q,V'.ownBlock=some q->q<wx.heap.size) (hs:StA (fun b=>w.heap.size<=b/\u.ownBlock≠some b/\V'.ownBlock≠some b) (20+d) wx s):BoX d w (.slice (some g8) (ss.length+1) c8) (ss ++ [s]) V' wy:=by
 have step:∀z,StA (fun b=>w.heap.size<=b/\u.ownBlock≠some b/\V'.ownBlock≠some b) (20+d) wx z->StA (fun b=>w.heap.size<=b/\(Value.slice (some g8) (ss.length+1) c8).ownBlock≠some b/\V'.ownBlock≠some b) (20+d) wy z:=fun z hz=>by
  have z1:=StA.mono (Q:=fun b=>w.heap.size<=b/\b≠g8/\u.ownBlock≠some b/\V'.ownBlock≠some b) (fun b hb hh=>⟨hh.1,(by rintro rfl;rcases hg8 with e|e;exact hh.2.1 e;omega),hh.2⟩) (jD _) hz;have z2:=StA.ext hE (fun y hy hh=>hh.2.2.1 (jC.1 hy)) z1;exact StA.mono (fun b _ hh=>⟨hh.1,fun e=>by cases e;exact hh.2.1 rfl,hh.2.2.2⟩) (jD _) z2
 refine⟨?_,fun x hx=>?_,fun q hq e=>?_,nt h.siz hE.size⟩
 ·rw[jG,List.flatMap_append];have e:List.flatMap stC [s]=stC s:=by simp
  rw[e];exact hO
 ·rcases jN.1 hx with hx|hx
  ·exact step x (h.kid x hx)
  ·rw[jA.1 hx];exact step s hs
 ·have a1:q=g8:=by cases hq;rfl
  rcases hg8 with e1|e1
  ·exact h.sep g8 e1 (a1 ▸ e)
  ·have:=hV q e;omega
end
end
def IoG (w:World)(x:InO):Prop:=RdI w x.A x.vs/\x.vs.length<=1000000
theorem IoG.keep {w w':World}{x:InO}(h:IoG w x)(hE:Ext [] w w'):IoG w' x:=⟨h.1.ext hE (by simp),h.2⟩
def ioA (x:InO):Array Value:=#[.int .i64 x.no,.slice x.A x.vs.length x.c]
set_option maxRecDepth 100000 in
theorem Ajj (x y:InO)(w:World)(hx:IoG w x)(hy:IoG w y)(hxn:x.no<=1000000)(hyn:y.no<=1000000):Calls prog 47 #[.agg (ioA x),.agg (ioA y)] w (Ff (decide (x.key=y.key)) w):=by
 have a2:=hd (fun W (hW:Ext [] w W)=>Wd x.A y.A x.c y.c x.vs y.vs W (hx.keep hW).1 (hy.keep hW).1 (by have:=hx.2;omega) (by have:=hy.2;omega));have HK:Hd (decide (x.key=y.key)=(decide (x.no=y.no)&&decide (x.vs=y.vs))):=hd (by rw[<-Bool.decide_and,decide_eq_decide];unfold InO.key;rw[Prod.mk.injEq]);rw[HK.o];clear hx hy;obtain⟨n1,v1,A1,c1⟩:=x;obtain⟨n2,v2,A2,c2⟩:=y;dsimp only[ioA] at *;generalize a7:decide (v1=v2)=dv at *;clear a7 HK;generalize v1.length=l1 at *;generalize v2.length=l2 at *;have a1:=hd (((jF [] w).alloc (.cells #[n1,.slice A1 l1 c1] 101)).alloc (.cells #[n2,.slice A2 l2 c2] 101));go_enter func47,ntmps47
 by_cases hn:n1=n2
 ·subst hn;go_wp2_with fail
  refine(a2.o _ a1.o).mono ?_
  rintro e w3 ⟨rfl,hE⟩;have a6:=hd (a1.o.trans hE);clear hE;go_wp2_with fail
  go_ret
  exact⟨by simp,a6.o⟩
 ·have hb:((n1:Int)==(n2:Int))=false:=by simp;omega
  go_wp2_with fail
  go_ret
  exact⟨by simp[hn],a1.o⟩
theorem Ajk:(prog.info? 101).map (·.size)=some 2:=by kernel_rfl
def zIo:Array Value:=#[.int .i64 0,.slice none 0 0]
theorem Ael (W:World):(zeroValue 101).run prog W=.ok (.agg zIo) W:=by kernel_rfl
theorem Aba (x:InO):(ioA x).toList=ioC x:=rfl
theorem Aem (x:InO):(ioA x).all (·.oneCell')=true:=by simp[ioA];repeat(first|exact rfl|refine⟨rfl,?_⟩)
theorem Alr {α β:Type}{f:α->β}{a b:List α}{k:Nat}{x y:α}(h:(a.take k).map f=(b.take k).map f)(hx:a[k]? = some x)(hy:b[k]? = some y)(hf:f x=f y):(a.take (k+1)).map f=(b.take (k+1)).map f:=by
 rw[List.take_add_one,List.take_add_one,hx,hy,List.map_append,List.map_append,h];simp[hf]
theorem Anb {α β:Type}{f:α->β}{a b:List α}{k:Nat}{x y:α}(hx:a[k]? = some x)(hy:b[k]? = some y)(hf:f x≠f y):a.map f≠b.map f:=fun h=>by
 have:=congrArg (fun l=>l[k]?) h;simp only[List.getElem?_map,hx,hy,Option.map_some] at this;exact hf (Option.some.inj this)
set_option maxRecDepth 100000 in
theorem Als (A1 A2:Option Addr)(c1 c2:Nat)(O1 O2:List InO)(w:World)(h1:Al w A1 2 ioC O1)(h2:Al w A2 2 ioC O2)(g1:∀x∈O1,IoG w x/\x.no<=1000000)(g2:∀x∈O2,IoG w x/\x.no<=1000000) :
  Calls prog 46 #[.slice A1 O1.length c1,.slice A2 O2.length c2,.func (.func 47) #[] #[]] w (Ff (decide (O1.map InO.key=O2.map InO.key)) w):=by
 have aV:=h1.1;have aW:=h2.1;have aE:=hd h1;have aF:=hd h2;have aG:=hd g1;have aH:=hd g2;clear h1 h2 g1 g2;generalize aA:O1.length=n1 at *;generalize aB:O2.length=n2 at *;have a7:=hd aA;have a8:=hd aB;clear aA aB;go_enter func46,ntmps46
 by_cases aD:n1=n2
 ·subst aD;go_wp2_with fail
  go_loopw [17] (fun i wr=>∃k:Nat,i=.int .i64 k/\k<=n1/\Hd (Ext [] w wr)/\Hd ((O1.take k).map InO.key=(O2.take k).map InO.key)) (fun i _=>(n1-intOf i).toNat)
  case atStart=>exact⟨0,rfl,jQ _,hd (jF _ _),hd rfl⟩
  case round=>
   obtain⟨k,rfl,hk,HE,af⟩:=hrel;rename World=>wq
   by_cases aZ:k<n1
   ·obtain⟨b1,x,rfl,hx,aw⟩:=(aE.o.keep HE.o).at (i:=k) (by have:=a7.o;omega);obtain⟨b2,y,rfl,hy,az⟩:=(aF.o.keep HE.o).at (i:=k) (by have:=a8.o;omega);have aX:=hd hx;have aY:=hd hy;have aa:=aG.o x (ilm hx);have ab:=aH.o y (ilm hy);have ag:=hd (fun W (hW:Ext [] w W)=>Ajj x y W (aa.1.keep hW) (ab.1.keep hW) aa.2 ab.2);have aI:=hd (fun hf=>Alr (f:=InO.key) af.o hx hy hf);have aJ:=hd (fun hf=>Anb (f:=InO.key) hx hy hf);have ah:=hd (fun j u hu=>aw j u (by rw[<-Aba];exact hu):∀(j:Nat) (u:Value),(ioA x).toList[j]? = some u->wq.cell? ⟨b1,k*2+j,none⟩=some u);have ai:=hd (fun j u hu=>az j u (by rw[<-Aba];exact hu):∀(j:Nat) (u:Value),(ioA y).toList[j]? = some u->wq.cell? ⟨b2,k*2+j,none⟩=some u);have aK:=hd (jK wq 101 (ioA x));have aj:=hd ((jF [] wq).alloc (.cells (ioA x) 101));have aL:=hd (show zIo.size=(ioA x).size from rfl);have aM:=hd (show zIo.size=(ioA y).size from rfl);have aN:=hd (Aem x);have aO:=hd (Aem y);have ac:=hd (show(prog.info? 101).map (·.size)=some (ioA x).size from Ajk);have ad:=hd (show(prog.info? 101).map (·.size)=some (ioA y).size from Ajk);clear hx hy aw az aa ab af;generalize aC:decide (x.key=y.key)=dk at *;have ak:=hd aC;clear aC;generalize ioA x=ax at *;generalize ioA y=ay at *
    go_upto_region 6 with(first
     | refine Ac rfl 101 _ rfl b1 (k*2) rfl ax ah.o _ underlying101 rfl ac.o ?_
     | refine Hb rfl rfl rfl 101 _ _ _ rfl rfl rfl zIo (Ael _) ax _ rfl rfl rfl ac.o aL.o aN.o ?_)
    have aP:=hd (fun j u hu=>aj.o.held (ai.o j u hu) (by simp));have aQ:=hd (HE.o.trans aj.o);have al:(World.alloc wq (.cells ax 101)).heap.size=wq.heap.size+1:=Ad _ _;generalize World.alloc wq _=w1 at *;generalize wq.heap.size=s1 at *;have am:=hd (jK w1 101 ay);have an:=hd ((jF [] w1).alloc (.cells ay 101));have aR:=hd (aK.o.ext an.o (by simp));have ao:=hd (aQ.o.trans an.o);clear ah ai
    go_upto_region 7 with(first
     | refine Ac rfl 101 _ rfl b2 (k*2) rfl ay aP.o _ underlying101 rfl ad.o ?_
     | refine Av rfl rfl 101 _ _ rfl rfl zIo (Ael _) ay rfl rfl ad.o aM.o aO.o ?_)
    rw[al] at am;generalize World.alloc w1 _=w2 at *;rw[al]
    go_wp2_with (first
     | refine Ac rfl 101 _ rfl s1 0 rfl ax aR.o.wide _ underlying101 rfl ac.o ?_
     | refine Ac rfl 101 _ rfl (s1+1) 0 rfl ay am.o.wide _ underlying101 rfl ad.o ?_)
    refine(ag.o w2 ao.o).mono ?_
    rintro e w3 ⟨rfl,hE⟩;have ap:=hd (ao.o.trans hE);clear hE ag;cases dk
    ·have a1:x.key≠y.key:=of_decide_eq_false ak.o;have a6:decide (O1.map InO.key=O2.map InO.key)=false:=by rw[decide_eq_false_iff_not];exact aJ.o a1
     have aS:=hd a6;clear a1 a6;go_wp2_with fail
     go_ret
     exact⟨by rw[aS.o];rfl,ap.o⟩
    ·have a1:x.key=y.key:=of_decide_eq_true ak.o;have aT:=hd (aI.o a1);clear a1;go_wp2_with fail
     go_roundw
     case rel=>exact⟨k+1,by go_num,by omega,ap,aT⟩
     case measure=>simp[intOf];omega
   ·have aU:k=n1:=by omega
    subst aU;have aq:O1.take k=O1:=List.take_of_length_le (by have:=a7.o;omega);have au:O2.take k=O2:=List.take_of_length_le (by have:=a8.o;omega)
    have a2:decide (O1.map InO.key=O2.map InO.key)=true:=by
     rw[decide_eq_true_iff,<-aq,<-au];exact af.o
    have ae:=hd a2;clear a2 aq au;go_wp2_with fail
    go_ret
    exact⟨by rw[ae.o];rfl,HE.o⟩
 ·have hb:((n1:Int) != (n2:Int))=true:=by simp;omega
  have a6:decide (O1.map InO.key=O2.map InO.key)=false:=by
   rw[decide_eq_false_iff_not];intro h;have h3:=congrArg List.length h;rw[List.length_map,List.length_map,a7.o,a8.o] at h3;exact aD h3
  rw[a6];go_wp2_with fail
  go_ret
  exact⟨rfl,jF _ _⟩
theorem Ik.rd {H:Nat}{A:Option Addr}{vs:List Int}{w:World}(h:Ik H A vs w):RdI w A vs:=by
 rcases h with h|⟨b,C,h1,h2,h3,h4⟩
 ·exact .inl h
 ·exact .inr ⟨b,0,h1,fun i x hx=>by rw[Nat.zero_add,h3.cell];exact h4 i x hx⟩
theorem Mq.seq {H:Nat}{v:Value}{O:List InO}{w:World}(h:Mq H v O w):∃A c,v=.slice A O.length c/\Al w A 2 ioC O:=by
 obtain⟨h1,⟨B,h2,h3⟩,h4⟩:=h;obtain⟨A,c,rfl,hc,-⟩:=Be h3;exact⟨A,c,rfl,(Aaw Ak2 h3 (by omega)).2⟩
set_option maxRecDepth 100000 in
theorem Wu (H1 H2:Nat)(v1 v2:Value)(O1 O2:List InO)(w:World)(h1:Mq H1 v1 O1 w)(h2:Mq H2 v2 O2 w)(k1:∀x∈O1,x.vs.length<=1000000/\x.no<=1000000)(k2:∀x∈O2,x.vs.length<=1000000/\x.no<=1000000) :
  Calls prog 19 #[v1,v2] w (Ff (decide (O1.map InO.key=O2.map InO.key)) w):=by
 obtain⟨A1,c1,rfl,a1⟩:=h1.seq;obtain⟨A2,c2,rfl,a2⟩:=h2.seq;have HC:=hd (Als A1 A2 c1 c2 O1 O2 w a1 a2 (fun x hx=>⟨⟨(h1.2.2 x hx).rd,(k1 x hx).1⟩,(k1 x hx).2⟩) (fun x hx=>⟨⟨(h2.2.2 x hx).rd,(k2 x hx).1⟩,(k2 x hx).2⟩));clear h1 h2 k1 k2 a1 a2;generalize decide (O1.map InO.key=O2.map InO.key)=d at *;generalize O1.length=n1 at *;generalize O2.length=n2 at *;go_enter func19,ntmps19
 go_wp2_with fail
 refine HC.o.mono ?_
 rintro e w1 ⟨rfl,hE⟩;have a6:=hd hE;clear hE;go_wp2_with fail
 go_ret
 exact⟨rfl,a6.o⟩
def kyR (x:RtD):Nat×List Int:=(x.no,x.vs)
def wkL (X:List RtD):List (Nat×List Int):=(X.filter fun x=>x.wr).map kyR
theorem Ls (a b:List RtD):wkL (a ++ b)=wkL a ++ wkL b:=by unfold wkL;rw[List.filter_append,List.map_append]
theorem Alt (O:List RtO):(wrO O).map InO.key=wkL (O.map RtO.d):=by
 unfold wrO wkL
 induction O with
 | nil=>rfl
 | cons x O ih=>
  simp only[List.map_cons,List.filter_cons];cases hw:x.d.wr
  ·simpa[hw] using ih
  ·simp only[hw,if_true,List.map_cons];rw[<-ih];rfl
theorem Amx (env:Env)(h:EH)(inst part k:Nat):∀t∈rdC env h inst part k,t.wr=false:=fun t ht=>by
 unfold rdC at ht;obtain⟨i,-,rfl⟩:=List.mem_map.1 ht;rfl
mutual
theorem Ajl (env:Env)(inst:Nat):∀(part:Nat) (e:Ex),∀t∈rdT env inst part e,t.wr=false
 | part,.mk h ks,t,ht=>by
  rw[rdT] at ht;rcases jN.1 ht with h1|h1
  ·exact Amx _ _ _ _ _ t h1
  ·exact Aen env inst _ ks t h1
theorem Aen (env:Env)(inst:Nat):∀(part:Nat) (l:List Ex),∀t∈Hv env inst part l,t.wr=false
 | part,[],t,ht=>by simp[Hv] at ht
 | part,e :: r,t,ht=>by
  rw[Hv] at ht;rcases jN.1 ht with h1|h1
  ·exact Ajl env inst part e t h1
  ·exact Aen env inst _ r t h1
end
theorem Ajm (env:Env)(no:Nat)(h:SH)(c:Nat):wkL (rqI env no h c)=[]:=by
 unfold wkL rqI;rw[List.map_eq_nil_iff,List.filter_eq_nil_iff];intro x hx;obtain⟨t,ht,rfl⟩:=List.mem_map.1 hx;have:=Ajl env c 0 h.val t ht;simp[Ho,this]
theorem Ajn (env:Env)(no:Nat)(h:SH)(c:Nat):wkL (rqW env no h c)=[kyI ⟨no,h,env⟩]:=rfl
theorem Yl {f:Nat->List RtD}{g:Nat->List (Nat×List Int)}(h:∀k,wkL (f k)=g k):∀n,wkL (Cj n f)=Cj n g
 | 0=>rfl
 | n+1=>by rw[Bq,Bq,Ls,Yl h n,h]
theorem Abb {α:Type}:∀n,Cj n (fun _=>([]:List α))=[]
 | 0=>rfl
 | n+1=>by rw[Bq,Abb n];rfl
theorem Aeo {α:Type}(f:Nat->α):∀n,Cj n (fun k=>[f k])=(List.range n).map f
 | 0=>rfl
 | n+1=>by rw[Bq,Aeo f n,List.range_succ,List.map_append];rfl
theorem Aep {α β:Type}(g:α->β)(f:Nat->List α):∀n,Cj n (fun k=>(f k).map g)=(Cj n f).map g
 | 0=>rfl
 | n+1=>by rw[Bq,Bq,Aep g f n,List.map_append]
theorem Ajo (env:Env)(h:SH):∀(b:List St) (no c:Nat),wkL (rqV env h no c b)=(Cd env h no b).map kyI
 | [],no,c=>rfl
 | s :: b,no,c=>by
  have h1:Cd env h no (s :: b)=Fi env h no s (An h) ++ Cd env h (no+1) b:=rfl;rw[h1,List.map_append,<-Ajo env h b (no+1) (c+An h)];simp only[rqV,Ls];rw[Yl (fun k=>Ajm (Bb env h k) no s.h (c+k)),Abb,List.nil_append,Yl (fun k=>Ajn (Bb env h k) no s.h (c+k)),Aeo];simp only[Fi,List.map_map];rfl
theorem Uj {env:Env}(l:List St)(ih:∀s∈l,∀no c,wkL (rqS env no c s)=(Br env no s).map kyI):∀no c,wkL (rqL env no c l)=(Aj env no l).map kyI:=by
 induction l with
 | nil=>intro no c;rfl
 | cons s r ihr=>
  intro no c;simp only[rqL,Aj,Ls,List.map_append,ih s (jO ..),ihr fun s hs=>ih s (jI _ hs)]
theorem Amy:∀(s:St) (env:Env) (no c:Nat),wkL (rqS env no c s)=(Br env no s).map kyI:=by
 refine Dr fun h b ih=>?_
 intro env no c;have hl:∀env no c,wkL (rqL env no c b)=(Aj env no b).map kyI:=fun env=>Uj b fun s hs no c=>ih s hs env no c
 rw[rqS,Br];split
 ·rw[Ls,Ajm,Ajn];rfl
 split
 ·split
  ·exact hl ..
  ·rfl
 split
 ·exact Ajo ..
 ·have h1:=Yl (f:=fun k=>rqL (Bb env h k) no (c+(Cj k fun j=>Aj (Bb env h j) no b).length) b) (g:=fun k=>(Aj (Bb env h k) no b).map kyI) (fun k=>hl _ _ _) (An h);rw[Aep] at h1;exact h1
theorem Alu (body:List St):wkL (rqL [] 0 0 body)=Jm body:=Uj body (fun s _=>Amy s []) 0 0
theorem Abc {p:Pg}(h:Eu p=0):Cg p.bs p.body=0/\Ef p.body=true:=by
 unfold Eu at h;split at h
 ·rename_i h1;exact absurd h h1
 ·rename_i h1
  split at h
  ·rename_i h2;exact⟨by omega,h2⟩
  ·cases h
theorem Abd {bs:List Bf}{body:List St}(h:Cg bs body=0):Kf bs body:=Kf.of (by
 unfold Cg at h;split at h
 ·assumption
 ·rename_i h1;exact absurd h h1)
theorem Ajp {p:Pg}(h:Cg p.bs p.body=0):∀k∈Jm p.body,k.2.length<=1000000/\k.1<=1000000:=fun k hk=>by
 have HF:=Abd h;have h8:=Alx HF.fd k hk;obtain⟨i,hi,rfl⟩:=List.mem_map.1 hk;have hn:=Tb HF.fd i hi;have hl:=(ils hn).1;rw[Px] at hl;have:=HF.sto;refine⟨by omega,?_⟩
 show i.no<=1000000
 omega
theorem Ajq {p:Pg}(h:Ef p.body=true):(Jm p.body).length<=2000:=by
 unfold Ef at h;rw[Bool.and_eq_true,decide_eq_true_eq,decide_eq_true_eq] at h;unfold Jm;rw[List.length_map];exact h.1
theorem Amz {p:Pg}(h:Cg p.bs p.body=0){O:List InO}(hO:O.map InO.key=Jm p.body):∀x∈O,x.vs.length<=1000000/\x.no<=1000000:=fun x hx=>by
 have hk:x.key∈Jm p.body:=hO ▸ List.mem_map_of_mem hx;exact Ajp h _ hk
theorem Alv {p:Pg}{O:List RtO}(hO:O.map RtO.d=rqL [] 0 0 p.body):(wrO O).map InO.key=Jm p.body:=by rw[Alt,hO,Alu]
end Go.Proofs.YtfppibmloloakaaGreatDoor
