import Derived.Test.YtfppibmloloakaaGreatDoorK39
namespace Go.Proofs.YtfppibmloloakaaGreatDoor
open Go.RowKit Go.Proofs.Tryz
set_option linter.all false
set_option maxHeartbeats 64000000
section
attribute [local irreducible] Bj Bb
def BD (d:Nat):Nat:=10000000000*20 ^ d
theorem Ajp (d:Nat):BD (d+1)=20*BD d:=by unfold BD;rw[Nat.pow_succ];omega
theorem Akt (d:Nat):10000000000<=BD d:=by unfold BD;have:=Nat.one_le_pow d 20 (by omega);omega
structure Zr (w:World)(base g pb n:Nat)(bA:Option Addr)(bc:Nat)(bs:List Bf)(V:Value)(l:List St)(V':Value)(cnt':Int)(w':World):Prop where
 ext:Ext (g :: pb :: V.ownBlock.toList) w w'
 bld:Bld w' base g pb n bA bc bs V' l cnt'
 row:∀q,V'.ownBlock=some q->V.ownBlock=some q\/w.heap.size<=q
def Fr (H:Nat)(V:Value)(b:Nat):Prop:=H<=b/\V.ownBlock≠some b
def BodP (d base g pb n:Nat)(bA:Option Addr)(bc:Nat)(bs:List Bf)(V:Value)(l:List St)(w:World)(e:Ending)(w':World):Prop:=
 ∃(A:Option Addr) (c:Nat) (ss:List St) (V':Value) (cnt':Int),e=.returned (.slice A ss.length c)/\Ao (Fr w.heap.size V') 20 w' A 21 stC ss/\(∀s∈ss,StA (Fr w.heap.size V') (20+d) w' s)/\Zr w base g pb n bA bc bs V l V' cnt' w'
def LooP (d base g pb n:Nat)(bA:Option Addr)(bc:Nat)(bs:List Bf)(V:Value)(l:List St)(w:World)(e:Ending)(w':World):Prop:=
 ∃(s:St) (V':Value) (cnt':Int),e=.returned (stV s)/\StA (Fr w.heap.size V') (20+d) w' s/\Zr w base g pb n bA bc bs V l V' cnt' w'
def Ajq (d:Nat):Prop:=∀(base g pb n bc:Nat) (bA:Option Addr) (bs:List Bf) (V:Value) (l:List St) (cnt:Int) (many:Nat) (w:World),many<=3->l.length+d<=3->Bld w base g pb (n+BD d) bA bc bs V l cnt->Calls prog 104 #[.pointer (some pb),d,many] w (BodP d base g pb n bA bc bs V l w)
def Aku (nm:ByteArray)(lo hi step:Int):SH:=⟨1,nm,lo,hi,step,false,none,0,[],none,0,0,afZ,.mk exZ []⟩
def Zs (H:Nat):Ba:=⟨Nat,0,fun b=>.pointer (some ⟨b,0,none⟩),fun b w=>H<=b/\Blk w b 43 zSt⟩
theorem Zs.stays {H g:Nat}(hg:g<H):∀y w w',Ext [g] w w'->(Zs H).V y w->(Zs H).V y w':=fun(y:Nat) w w' hE h=>⟨h.1,h.2.ext hE (fun hm=>by have h1:y=g:=jA.1 hm;have h2:H<=y:=h.1;omega)⟩
def loA (nm:ByteArray)(lo hi step:Int)(vec:Bool)(v:Value):Array Value:=#[.int .i64 1,.string nm,.int .i64 lo,.int .i64 hi,.int .i64 step,.bool vec,.slice none 0 0,v,.int .i64 0,.int .i64 0,.slice none 0 0,.int .i64 0,.int .i64 0,.int .i64 0,.int .i64 0,.int .i64 0,.int .i64 0,.int .i64 0,.int .i64 0,.slice none 0 0,.slice none 0 0]
theorem Vw (w:World):(Instr.buildSlice 27 1 #[(0,.agg zSt)]).run prog w=.ok (.slice (some w.heap.size) 1 1) (w.alloc (.cells zSt 43)):=by kernel_rfl
structure LoM (d:Nat)(w:World)(T:List Nat)(H base g pb n:Nat)(bA:Option Addr)(bc:Nat)(bs:List Bf)(V:Value)(lz:List St)(rb eb:Nat)(ar:Value->Array Value)(A:Option Addr)(c:Nat)(ss:List St)(V':Value)(cnt':Int)(wx:World):Prop where
 ext:Ext T w wx
 bld:Bld wx base g pb n bA bc bs V' lz cnt'
 res:Blk wx rb 43 zSt
 blk:Blk wx eb 43 (ar (.slice A ss.length c))
 seq:Ao (Fr H V') 20 wx A 21 stC ss
 kid:∀s∈ss,StA (Fr H V') (20+d) wx s
 row:∀q,V'.ownBlock=some q->(V.ownBlock=some q\/w.heap.size<=q)/\q≠eb/\q≠rb
set_option maxRecDepth 100000 in
theorem Ae0 (d:Nat)(IH:Ajq d)(base g pb n bc:Nat)(bA:Option Addr)(bs:List Bf)(V:Value)(l:List St)(cnt:Int)(w:World)(hl:l.length+(d+1)<=3)(h:Bld w base g pb (n+BD d+12000000000) bA bc bs V l cnt) :
  Calls prog 154 #[.pointer (some pb),.int .i64 ((d+1:Nat):Int)] w (LooP (d+1) base g pb n bA bc bs V l w):=by
 obtain⟨VA,vc,rfl,-,-⟩:=Bg h.row;have HD:=hd h;have bE:=hd IH;have HL:=hd hl;have aJ:Hd (base<=w.heap.size):=hd (by have:=h.bpb;have:=h.blk.lt;omega);have cw:=hd h.pg;clear h IH hl;generalize cs:((d+1:Nat):Int)=D1;have cx:D1-1=(d:Int):=by omega
 clear cs;have cy:d<=2:=by have:=HL.o;omega
 go_enter func154,ntmps154
 go_upto_region 1 with fail
 have aK:=hd ((jF [g] w).alloc (.cells zSt 43));have ax:=hd (jK w 43 zSt);have aa:=hd (HD.o.grow ((jF [] w).alloc (.cells zSt 43)));unfold zSt at aK ax aa;generalize World.alloc w _=w1 at *;change Hd (Blk w1 w.heap.size 43 zSt) at ax;generalize aI:w.heap.size=rb at *;have a2:=hd aI;have ay:Hd (g<rb):=hd (by rw[<-aI];exact HD.o.stm.lt);have bF:Hd (pb<rb):=hd (by rw[<-aI];exact HD.o.blk.lt);clear aI;refine rgC 12 1 base g (n+BD d+11000000000) [(4,Ds 5 g),(5,Dr),(10,Ds 4 g),(11,Dr)] (Am.cons Ds.stays (Am.cons Dr.stays (Am.cons Ds.stays (Am.cons Dr.stays Am.nil)))) (aa.o.stm.less (by omega)) ?_
 simp only[TK]
 repeat(refine dE (fun wr nr hJ=>by(have hB:=aa.o.draw hJ.1 hJ.2;have qp:=hB.blk.cell;have a6:=hB.blk.lt;unfold Db at qp;clear hB);clear hJ;exact CL) ?_;simp only[PT])
 refine Ew (Ds 5 g) rfl rfl ?_ ?_
 ·intro wr hE hf;refine⟨wr.heap.size,.cells (Cj [0,0,0,1,-1]) 3,?_,[0,0,0,1,-1],rfl,jK _ _ _,by have:=hE.size;have:=aa.o.stm.lt;omega⟩
  go_simp;try first|rfl|exact⟨rfl,rfl⟩
 intro (b1:Nat);simp only[PT];dsimp only[Ds];refine Bz Dr rfl rfl ?_ ?_
 ·refine EC fun wr m hE hS hm hf=>?_
  obtain⟨xs,hx,hB,aw⟩:=(Cw hf 4 (by kernel_rfl):(Ds 5 g).V b1 wr);have hp:=Cc base g m b1 5 3 xs wr hS hB aw (by omega);rw[hx] at hp;refine hp.mono ?_
  rintro e w' ⟨r,rfl,_,ae,af⟩;exact⟨r,rfl,trivial,ae,af⟩
 intro (lo:Int);simp only[PT];dsimp only[Dr]
 repeat(refine dE (fun wr nr hJ=>by(have hB:=aa.o.draw hJ.1 hJ.2;have qp:=hB.blk.cell;have a6:=hB.blk.lt;unfold Db at qp;clear hB);clear hJ;exact CL) ?_;simp only[PT])
 refine Ew (Ds 4 g) rfl rfl ?_ ?_
 ·intro wr hE hf;refine⟨wr.heap.size,.cells (Cj [1,1,1,2]) 3,?_,[1,1,1,2],rfl,jK _ _ _,by have:=hE.size;have:=aa.o.stm.lt;omega⟩
  go_simp;try first|rfl|exact⟨rfl,rfl⟩
 intro (b2:Nat);simp only[PT];dsimp only[Ds];refine Bz Dr rfl rfl ?_ ?_
 ·refine EC fun wr m hE hS hm hf=>?_
  obtain⟨xs,hx,hB,aw⟩:=(Cw hf 10 (by kernel_rfl):(Ds 4 g).V b2 wr);have hp:=Cc base g m b2 4 3 xs wr hS hB aw (by omega);rw[hx] at hp;refine hp.mono ?_
  rintro e w' ⟨r,rfl,_,ae,af⟩;exact⟨r,rfl,trivial,ae,af⟩
 intro (step:Int);simp only[PT];dsimp only[Dr];refine Aj (fun w2 hJ hF=>?_)
 have an:=hd ((aa.o.draw hJ.1 hJ.2).less (m:=n+BD d+11000000000) (by omega));have b4:=hd (aK.o.trans hJ.1);have aL:=hd (ax.o.ext hJ.1 (by rw[jA];have:=ay.o;omega));clear hJ hF aa aK ax;go_upto_region 2 with fail
 have cz:=aL.o.lt;generalize hH:w2.heap.size=H2 at *;have bG:=hd hH;have az:Hd (g<H2):=hd (by have:=ay.o;omega);clear hH;refine rgC 20 1 base g (n+BD d+10900000000) [(14,Ds 7 g),(15,Dr),(19,Zs H2)] (Am.cons Ds.stays (Am.cons Dr.stays (Am.cons (Zs.stays az.o) Am.nil))) (an.o.stm.less (by omega)) ?_
 simp only[TK]
 repeat(refine dE (fun wr nr hJ=>by(have hB:=an.o.draw hJ.1 hJ.2;have qp:=hB.blk.cell;have a6:=hB.blk.lt;unfold Db at qp;clear hB);clear hJ;exact CL) ?_;simp only[PT])
 refine Ew (Ds 7 g) rfl rfl ?_ ?_
 ·intro wr hE hf;refine⟨wr.heap.size,.cells (Cj [0,1,2,3,4,5,6]) 3,?_,[0,1,2,3,4,5,6],rfl,jK _ _ _,by have:=hE.size;have:=an.o.stm.lt;omega⟩
  go_simp;try first|rfl|exact⟨rfl,rfl⟩
 intro (b3:Nat);simp only[PT];dsimp only[Ds];refine Bz Dr rfl rfl ?_ ?_
 ·refine EC fun wr m hE hS hm hf=>?_
  obtain⟨xs,hx,hB,aw⟩:=(Cw hf 14 (by kernel_rfl):(Ds 7 g).V b3 wr);have hp:=Cc base g m b3 7 3 xs wr hS hB aw (by omega);rw[hx] at hp;refine hp.mono ?_
  rintro e w' ⟨r,rfl,_,ae,af⟩;exact⟨r,rfl,trivial,ae,af⟩
 intro (r3:Int);simp only[PT];dsimp only[Dr]
 repeat(refine dE (fun wr nr hJ=>by clear hJ;exact CL) ?_;simp only[PT])
 generalize ct:wrap64 (lo+r3)=hi;clear ct;generalize bD:Utf8.encode _=nm;have bH:Hd (nm.size<=20):=hd (by rw[<-bD];exact nt (encode_size_le _) (by omega));clear bD;refine Ew (Zs H2) rfl rfl ?_ ?_
 ·intro wr hE hf;refine⟨wr.heap.size,.cells zSt 43,?_,by have:=hE.size;have:=bG.o;show H2<=wr.heap.size;omega,jK _ _ _⟩
  go_simp;try first|rfl|exact⟨rfl,rfl⟩
 intro (eb:Nat);simp only[PT];dsimp only[Zs];refine Aj (fun w3 hJ hF=>?_)
 have hv:(Zs H2).V eb w3:=hF 19;have HV:=hd hv;have b5:=hd ((an.o.draw hJ.1 hJ.2).less (m:=n+BD d+10900000000) (by omega));have b6:=hd (b4.o.trans hJ.1);have b7:=hd (aL.o.ext hJ.1 (by rw[jA];have:=ay.o;omega));clear hJ hF hv an b4 aL;have b8:=hd (show(loA nm lo hi step false (.slice none 0 0)).all (·.oneCell')=true from Cz (Aku nm lo hi step) 0 exZ 0);have aM:=hd (show(prog.info? 43).map (·.size)=some (loA nm lo hi step false (.slice none 0 0)).size from Dv);have bI:=hd (show zSt.size=(loA nm lo hi step false (.slice none 0 0)).size from rfl)
 go_upto_region 3 with(
             refine Bc rfl 43 _ _ rfl eb (loA nm lo hi step false (.slice none 0 0)) zSt 43 rfl rfl HV.o.2 aM.o bI.o b8.o ?_
             intro w4 hB4 hE4;have ba:=hd hB4;have aA:=hd hE4;clear hB4 hE4)
 have a7:Hd (H2<=eb):=hd HV.o.1;have cB:=ay.o;have cC:=bF.o;have ao:=hd (b5.o.far aA.o HD.o (fun q hq=>by rw[jA.1 hq];have:=a7.o;have:=a2.o;omega));have bb:Hd (Ext (g :: pb :: (Value.slice VA l.length vc).ownBlock.toList) w w4):=hd ((b6.o.mono fun x hx=>.inl (by rw[jA.1 hx];simp)).step aA.o fun x hx=>.inr (by rw[jA.1 hx];have:=a7.o;have:=a2.o;omega));have bd:=hd (b7.o.ext aA.o (by rw[jA];have:=a7.o;omega));clear b6 b7 HV aA b5;have qp:=ao.o.blk.cell;have aB:=ao.o.blk.frozen;have a6:=ao.o.blk.lt;unfold Db at qp;have ag:=hd (ao.o.cnt' (wrap64 (cnt+1)));have aC:=hd (jL (b:=pb) (i:=4) (u:=.int .i64 (wrap64 (cnt+1))) (.inl (by simp)) (jF [pb] w4));go_upto_region 4 with fail
 generalize World.setCell w4 _ _=w5 at *;have aD:=hd (ba.o.ext aC.o (by rw[jA];have:=a7.o;omega));have aN:=hd (bd.o.ext aC.o (by rw[jA];omega));have aO:=hd (bb.o.trans (aC.o.mono fun x hx=>.inl (by rw[jA.1 hx];simp)));clear qp aB a6 ao ba bd bb aC;generalize wrap64 (cnt+1)=cnt2 at *;have be:=hd ag.o.vpb;have ab:Hd (w.heap.size<=w5.heap.size):=hd aO.o.size;have aP:Hd (l.length<=2):=hd (by have:=HL.o;omega);have bJ:=hd (show stC (.mk (Aku nm lo hi step) [])=(loA nm lo hi step false (.slice none 0 0)).toList from rfl);have aQ:=hd (show(loA nm lo hi step false (.slice none 0 0)).size=21 from rfl)
 have ac:Hd (eb∉pb :: (Value.slice VA l.length vc).ownBlock.toList):=hd (by
  intro hm;rcases jE.1 hm with e|e
  ·have:=a7.o;omega
  ·have:=(HD.o.row.lt eb (jC.1 e)).2;have:=a7.o;have:=a2.o;omega)
 refine rgP base pb g bs.length bc bA VA vc l cnt2 rfl (fun i hi oi ho=>by rcases hi with rfl|rfl|rfl<;>(cases ho;rfl)) ag.o.row ag.o.blk ?_
 simp only[TK];have bf:pb<w5.heap.size:=ag.o.blk.lt
 repeat(refine dEU (fun wr nr hg hJ=>by(clear hg);clear hJ;exact CL) ?_;simp only[PT])
 refine dEU (fun wr nr hg hJ=>by(have hB:=hJ.blk (hg.later 12 (by kernel_rfl));have qp:=hB.cell;have a6:=hB.lt;unfold Db at qp;clear hB hg);clear hJ;exact CL) ?_
 simp only[PT];refine Il rfl rfl ⟨.agg (loA nm lo hi step false (.slice none 0 0)),fun wr nr hg hJ=>?_,?_⟩
 ·exact Dx 43 _ rfl eb 0 rfl (loA nm lo hi step false (.slice none 0 0)) (aD.o.ext hJ.ext ac.o).wide _ underlying43 rfl aM.o
 simp only[PT]
 repeat(refine dEU (fun wr nr hg hJ=>by(clear hg);clear hJ;exact CL) ?_;simp only[PT])
 refine Bv (Cx (.slice (some w5.heap.size) 1 1)) rfl rfl (fun wr nr hg hJ hf=>?_) ?_
 ·obtain⟨h1,h2,h3⟩:=hJ.make hg.mine;refine⟨(),_,?_,trivial,h2,h3⟩
  rw[<-h1];refine As rfl _ wr _ _ (.agg zSt) ?_ ?_
  ·rfl
  ·exact Vw wr
 rintro⟨⟩;simp only[PT];dsimp only[Cx];refine Bv (sV7 base (.slice VA l.length vc) l w5.heap.size) rfl rfl (fun wr nr hg hJ hf=>?_) ?_
 ·obtain⟨g8,c8,w',h1,h2,h3,h4⟩:=hJ.app 27 hg.mine (hg.done 6 (by kernel_rfl)) (hg.later 12 (by kernel_rfl)) aP.o (by have:=aJ.o;have:=a2.o;have:=ab.o;omega) be.o bf;refine⟨(g8,c8),w',?_,h2,h3,h4⟩
  refine Qg rfl _ wr w' _ _ _ ?_ ?_ h1
  ·rfl
  ·rfl
 rintro⟨g8,c8⟩;simp only[PT];dsimp only[sV7];have cD:(l.length:Int)<(l.length:Int)+1:=by omega
 repeat(refine dEU (fun wr nr hg hJ=>by(clear hg);clear hJ;exact CL) ?_;simp only[PT])
 refine Dq sUn rfl rfl (fun _=>rfl) (fun wr nr hg hJ hf=>?_) ?_
 ·have hv:(sV7 base (.slice VA l.length vc) l w5.heap.size).V (g8,c8) wr:=Cw hf 7 (by kernel_rfl);obtain⟨C,h1,h2,h3,h4⟩:=hJ.lay (hg.done 7 (by kernel_rfl)) (hg.done 6 (by kernel_rfl)) hv (.mk (Aku nm lo hi step) []) be.o bf (jD _);refine⟨(),_,?_,trivial,h3,h4⟩
  rw[bJ.o];refine Er rfl _ wr g8 (l.length*21) (loA nm lo hi step false (.slice none 0 0)) C 43 ?_ ?_ h1 (by rw[aQ.o];exact h2) aM.o b8.o
  ·rfl
  ·rfl
 rintro⟨⟩;simp only[PT];dsimp only[sUn]
 repeat(refine dEU (fun wr nr hg hJ=>by(clear hg);clear hJ;exact CL) ?_;simp only[PT])
 refine Dq (Ab3 base (.slice VA l.length vc) l w5.heap.size pb g bA bs.length bc cnt2) rfl rfl (fun _=>rfl) (fun wr nr hg hJ hf=>?_) ?_
 ·have hv:(sV7 base (.slice VA l.length vc) l w5.heap.size).V (g8,c8) wr:=Cw hf 7 (by kernel_rfl);have bh:=hg.mine;obtain⟨h1,h2,h3,h4⟩:=hJ.ptr (hg.done 7 (by kernel_rfl)) (hg.done 6 (by kernel_rfl)) bh hv (.slice (some g8) (l.length+1) c8) (Ahv g bA bs.length bc l.length cnt2 (g8,c8)) rfl;refine⟨(g8,c8),_,?_,⟨h1,h2⟩,h3,h4⟩
  have hB:=hJ.blk bh;have qp:=hB.cell;have aB:=hB.frozen;have a6:=hB.lt;unfold Db at qp;clear hB hv h1 h2 h3 h4 hJ hf hg;go_simp
 rintro⟨g9,c9⟩;simp only[PT];dsimp only[Ab3];refine Ci (fun wz r13 hr hJ hF=>?_)
 have hz:(Ab3 base (.slice VA l.length vc) l w5.heap.size pb g bA bs.length bc cnt2).V (g9,c9) wz:=hF 12;have ah:=hd hJ.ext;obtain⟨s9,bt⟩:=ag.o.push aP.o ah.o hz.1 hz.2;have aE:=hd bt;have aF:=hd hz.2.1;dsimp only at aE aF;clear hJ hF hr hz bt;have bK:g<w.heap.size:=by have:=a2.o;omega
 have bL:pb<w.heap.size:=by have:=a2.o;omega
 have bM:=aD.o.lt
 have ai:Hd (LoS w (g :: pb :: (Value.slice VA l.length vc).ownBlock.toList) wz.heap.size base g pb (n+BD d+10900000000) bA bc bs (.slice (some g9) (l.length+1) c9) (l ++ [s9]) cnt2 rb eb zSt (loA nm lo hi step false) (.slice none 0 0) [] wz):=hd (by
  refine⟨aO.o.trans (ah.o.mono fun x hx=>.inl (jI _ hx)),aE.o,aN.o.ext ah.o (fun hm=>?_),aD.o.ext ah.o ac.o,Cm _ _ _ _,by simp,fun q hq=>⟨(aE.o.row.lt q hq).2,fun e=>?_⟩,fun q hq=>(HD.o.buf.lt q hq).2,by simp,Nat.le_of_eq a2.o,by have:=a7.o;omega,by have:=ah.o.size;omega,bK,bL,jD _⟩
  ·rcases jE.1 hm with e|e
   ·omega
   ·have:=(HD.o.row.lt rb (jC.1 e)).2;have:=a2.o;omega
  ·have aG:q=g9:=by cases hq;rfl
   rcases aF.o with e1|e1
   ·exact ac.o (by rw[<-e,aG];exact jI _ (jC.2 e1))
   ·omega)
 have aR:Hd (∀q,(Value.slice (some g9) (l.length+1) c9).ownBlock=some q->(Value.slice VA l.length vc).ownBlock=some q\/w.heap.size<=q):=hd fun q hq=>by
  have aG:q=g9:=by cases hq;rfl
  rcases aF.o with e|e
  ·exact .inl (by rw[aG];exact e)
  ·exact .inr (by have:=ab.o;omega)
 have aS:Hd (∀q,(Value.slice (some g9) (l.length+1) c9).ownBlock=some q->q≠rb):=hd fun q hq=>by
  have aG:q=g9:=by cases hq;rfl
  rcases aF.o with e|e
  ·have:=(HD.o.row.lt g9 e).2;have:=a2.o;omega
  ·have:=aN.o.lt;omega
 clear aO aN aD aE ah ag ab;have cE:rb<wz.heap.size:=ai.o.res.lt;have cF:Hd (wz.heap.size<=wz.heap.size):=hd (jD _);generalize cu:wz.heap.size=Hz at *;have qp:=ai.o.bld.blk.cell;have a6:=ai.o.bld.blk.lt;unfold Db at qp;go_upto_if 61 with(go_at_call 13;refine(Gf base g (n+BD d+10800000000) 5 _ (ai.o.bld.stm.less (by omega)) (by omega)).mono ?_;rintro e w6 ⟨fl,rfl,hE,hS⟩)
 have a1:=hd (ai.o.draw hE hS);clear hE hS ai qp a6;go_cut [] (fun wx=>∃(vec:Bool) (A:Option Addr) (c:Nat) (ss:List St) (V':Value) (cnt':Int),Hd (LoM d w (g :: pb :: (Value.slice VA l.length vc).ownBlock.toList) Hz base g pb n bA bc bs (.slice VA l.length vc) (l ++ [s9]) rb eb (loA nm lo hi step vec) A c ss V' cnt' wx))
 case first=>
  cases fl
  ·skip
   go_wp2_with fail
   refine(bE.o base g pb n bc bA bs _ (l ++ [s9]) cnt2 3 w6 (by omega) (by have:=HL.o;simp;omega) (a1.o.bld.less (by omega))).mono ?_
   rintro e w7 ⟨A,c,ss,V',cnt',rfl,hq,hs,hA⟩;have cG:Hz<=w6.heap.size:=a1.o.hH;have bN:=a1.o.ebH;have aT:=a1.o.hz
   have ap:eb∉g :: pb :: (Value.slice (some g9) (l.length+1) c9).ownBlock.toList:=fun hm=>by
    rcases jE.1 hm with e|hm
    ·have:=a7.o;omega
    ·rcases jE.1 hm with e|hm
     ·have:=a7.o;omega
     ·exact(aT _ (jC.1 hm)).2 rfl
   have aq:=hd (a1.o.blk.ext hA.ext ap)
   have bO:=hd (a1.o.res.ext hA.ext (fun hm=>by
    rcases jE.1 hm with e|hm
    ·omega
    ·rcases jE.1 hm with e|hm
     ·omega
     ·exact aS.o _ (jC.1 hm) rfl))
   have bP:Hd (Ext (g :: pb :: (Value.slice VA l.length vc).ownBlock.toList) w w7):=hd (a1.o.ext.step hA.ext fun x hx=>by
    rcases jE.1 hx with e|hx
    ·exact .inl (by rw[e];simp)
    ·rcases jE.1 hx with e|hx
     ·exact .inl (by rw[e];simp)
     ·exact(aR.o x (jC.1 hx)).imp (fun e=>jI _ (jI _ (jC.2 e))) id)
   have bQ:=hd hq;have bR:=hd hs;have bS:=hd hA.bld
   have bi:Hd (∀q,V'.ownBlock=some q->((Value.slice VA l.length vc).ownBlock=some q\/w.heap.size<=q)/\q≠eb/\q≠rb):=hd fun q hq=>by
    rcases hA.row q hq with e|e
    ·exact⟨aR.o q e,(aT q e).2,aS.o q e⟩
    ·exact⟨.inr (by have:=a1.o.ext.size;omega),by omega,by omega⟩
   clear hq hs hA ap aT;have qe:=aq.o.cell;have bj:=aq.o.frozen;have aU:=aq.o.lt;unfold loA at qe;have a8:=hd (jL (b:=eb) (i:=7) (u:=.slice A ss.length c) (.inl (by simp)) (jF [eb] w7));have aV:=hd (aq.o.set_' 7 (.slice A ss.length c) (loA nm lo hi step false (.slice A ss.length c)) rfl);have aW:w.heap.size<=eb:=by have:=a2.o;have:=a7.o;omega
   go_wp2_with fail
   go_meet
   have bk:∀b,Fr w6.heap.size V' b->Fr Hz V' b:=fun b hb=>⟨by have:=hb.1;omega,hb.2⟩
   have bl:∀x∈[eb],¬Fr Hz V' x:=fun x hx hh=>by rw[jA.1 hx] at hh;have:=hh.1;omega
   refine⟨false,A,c,ss,V',cnt',hd ⟨bP.o.step a8.o fun x hx=>.inr (by rw[jA.1 hx];exact aW),bS.o.one a8.o aq.o (fun k hk=>(bi.o k hk).2.1) (by have:=aJ.o;have:=a2.o;omega),bO.o.ext a8.o (by rw[jA];have:=a7.o;omega),aV.o,
    Ao.ext (Ao.mono bQ.o (fun b _ hb=>bk b hb) (jD _)) a8.o bl,fun s hs=>StA.ext a8.o bl (StA.mono (fun b _ hb=>bk b hb) (jD _) (bR.o s hs)),bi.o⟩⟩
  ·skip
   have qp:=a1.o.bld.blk.cell;have a6:=a1.o.bld.blk.lt;unfold Db at qp;go_wp2_with fail
   refine(Ce base g (n+BD d+10700000000) 1 2 _ (a1.o.bld.stm.less (by omega)) (by omega) (by omega)).mono ?_
   rintro e w7 ⟨bC,rfl,cr,hE,hS⟩;obtain⟨kk,rfl⟩:∃k:Nat,bC=k:=⟨bC.toNat,by omega⟩;have bT:Hd (1<=kk/\kk<=2):=hd (by omega);have bU:=hd (a1.o.draw hE hS);clear hE hS cr qp a6 a1;have bm:100*KD 2=1000000000:=by decide
   have bV:=hd bm;clear bm
   obtain⟨F,bu,bv,bx⟩:∃F:Nat->Nat,F 0=n+BD d+10000000000/\(∀k,k<2->F k=F (k+1)+5000000000)/\∀k,n+BD d<=F k:=⟨fun k=>n+BD d+(2-k)*5000000000,by simp only[Nat.sub_zero],fun k hk=>by
    have e:2-k=(2-(k+1))+1:=by omega
    simp only[e,Nat.succ_mul];omega,fun k=>by simp only;omega⟩
   have bW:=hd bu;have bX:=hd bv;have bY:=hd bx;clear bu bv bx;go_wp2_with fail
   go_loopw [67] (fun i wr=>∃(k:Nat) (v:Value) (ss:List St),i=.int .i64 k/\k<=kk/\Hd (ss.length=k)/\Hd (LoS w (g :: pb :: (Value.slice VA l.length vc).ownBlock.toList) Hz base g pb (F k) bA bc bs (.slice (some g9) (l.length+1) c9) (l ++ [s9]) cnt2 rb eb zSt (loA nm lo hi step false) v ss wr)) (fun i _=>(kk-intOf i).toNat)
   case atStart=>exact⟨0,_,[],rfl,jQ _,hd rfl,hd (bU.o.less (by rw[bW.o];omega))⟩
   case round=>
    obtain⟨k,v,ss,rfl,hk,aZ,HO⟩:=hrel;have bZ:=bT.o.2;by_cases cv:k<kk
    ·have c0:(k:Int)<kk:=by omega
     have cH:=hd cv;go_wp2_with fail
     generalize hH:wr.heap.size=H4 at *;have az:Hd (g<H4):=hd (by rw[<-hH];exact HO.o.bld.stm.lt);have c2:Hd (Hz<=H4):=hd (by rw[<-hH];exact HO.o.hH);have c5:Hd (∀q,v.ownBlock=some q->q<H4):=hd fun q hq=>by rw[<-hH];exact(HO.o.own.lt q hq).2
     refine rgC 5 1000000000 base g (F (k+1)) [(3,sSt H4),(4,Zq H4)] (Am.cons (sSt.stays az.o) (Am.cons (Zq.stays az.o) Am.nil)) (HO.o.bld.stm.less (by rw[bX.o k (by omega)];omega)) ?_
     simp only[TK]
     repeat(refine dE (fun wr nr hJ=>by(have hB:=HO.o.draw hJ.1 hJ.2;have qe:=hB.blk.cell;have aU:=hB.blk.lt;unfold loA at qe;clear hB);clear hJ;exact CL) ?_;simp only[PT])
     refine Bz (sSt H4) rfl rfl ?_ ?_
     ·refine EC fun wr m' hE hS hm hf=>?_
      refine(Tm base g pb m' bc _ bs _ (l ++ [s9]) cnt2 wr ((HO.o.bld.draw hE hS).less (by rw[bV.o];omega))).mono ?_
      rintro e w' ⟨s,rfl,hs,ae,af⟩;exact⟨s,rfl,hs.mono (fun b _ hb=>by have:=hE.size;omega) (jD _),ae,af⟩
     intro (s:St);simp only[PT];dsimp only[sSt];refine Ew (Zq H4) rfl rfl ?_ ?_
     ·intro wq hE hf;have hv:(sSt H4).V s wq:=Cw hf 3 (by kernel_rfl);have h1:Ext [] wq (wq.alloc (.cells (stA s) 43)):=(jF _ _).alloc _;refine⟨(wq.heap.size,s),.cells (stA s) 43,?_,by have:=hE.size;show H4<=wq.heap.size;omega,jK _ _ _,StA.ext h1 (by simp) hv⟩
      refine As rfl _ wq _ _ (stV s) ?_ ?_
      ·rfl
      ·exact Mx wq s
     rintro⟨kb,y⟩;simp only[PT];dsimp only[Zq];refine Aj (fun wy hJ hF=>?_)
     have hv:(Zq H4).V (kb,y) wy:=hF 4;have HV:=hd hv;have aj:=hd ((HO.o.draw hJ.1 hJ.2).less (m:=F (k+1)) (by omega));have c6:Hd (StA (fun b=>Hz<=b/\v.ownBlock≠some b) 20 wy y):=hd (StA.mono (fun b _ hb=>⟨nt c2.o hb,fun e=>by have:=c5.o b e;omega⟩) (jD _) hv.2.2);clear hJ hF hv;obtain⟨i0,cn,co,cp,cq⟩:=Jb;have cI:ss.length<2:=by rw[aZ.o];omega
     go_wp2_with (
      refine wpList_append_lies _ rfl _ _ 27 rfl Hz 43 i0 _ 21 256 underlying27 cn co cp cq rfl (by decide) v ss.length (ss.flatMap stC) rfl aj.o.own ⟨kb,0,none⟩ 1 1 (stC y) rfl (Cr y) ?c1 (La y) (by omega) ?c3 ?c4 aj.o.hH _ rfl ?_
      case c1=>intro j u hj;rw[Addr.add_mk,Nat.zero_add,HV.o.2.1.cell,<-Array.getElem?_toList,<-Hh];exact hj
      case c3=>unfold maxLen;omega
      case c4=>omega
      intro g8 c8 w8 ho8 hg8 hi8 ha8;have a8:Hd (Ext v.ownBlock.toList wy w8):=hd ((jF _ wy).grown hg8 fun q hq=>.inl (jC.2 hq));have c7:=hd (aj.o.more a8.o (k:=7) (fun a b=>rfl) ho8 (hi8.imp id fun e=>Nat.le_of_eq e.symm) c6.o);have aH:=aj.o.blk.ext a8.o fun hm=>by have:=Ad aj.o.own _ (jC.1 hm);have:=aj.o.ebH;omega
      have qe:=aH.cell;have bj:=aH.frozen;have aU:=aH.lt;unfold loA at qe;clear ho8 hg8 hi8 ha8 aH)
     go_roundw
     case rel=>exact⟨k+1,_,ss ++ [y],by go_num,by omega,hd (by rw[jG,aZ.o];rfl),c7⟩
     case measure=>simp[intOf];omega
    ·have qe:=HO.o.blk.cell;have bj:=HO.o.blk.frozen;have aU:=HO.o.blk.lt;unfold loA at qe;have ad:=hd (HO.o.put (C':=loA nm lo hi step true) 5 (.bool true) rfl);go_wp2_with fail
     go_meet
     obtain⟨A,c,rfl,-,-⟩:=Bg ad.o.own;obtain⟨-,hq,hs⟩:=ad.o.body (by rw[aZ.o];omega) rfl;have hz:=ad.o.hz;exact⟨true,A,c,ss,_,cnt2,hd ⟨ad.o.ext,ad.o.bld.less (by have:=bY.o k;omega),ad.o.res,ad.o.blk,Ao.mono hq (fun b _ hb=>⟨hb,fun e=>by have:=(hz b e).1;omega⟩) (jD _),fun s hs'=>StA.mono (fun b _ hb=>⟨hb,fun e=>by have:=(hz b e).1;omega⟩) (by omega) (hs s hs'),fun q hq=>⟨aR.o q hq,(hz q hq).2,aS.o q hq⟩⟩⟩
 case rest=>
  obtain⟨vec,A,c,ss,V',cnt',HM⟩:=hcut;clear a1;obtain⟨cN,am,bz,b0,bB⟩:=Bg HM.o.bld.row;obtain⟨q,hq,-,cO⟩:=bB (by simp);subst hq;have bn:(l ++ [s9]).length=l.length+1:=by simp
  rw[bn] at bz b0;subst bz;have cJ:l.length<=am:=by omega
  have ca:(l.length:Int)<=(am:Int):=by omega
  have bo:=hd HM.o.bld;have cK:=hd (HM.o.row q rfl);clear bB bn;have cL:l.length<=2:=aP.o;go_upto_region 12 with fail
  refine Cu 12 (JE _) (Ext []) (Bi []) (by kernel_rfl) (by kernel_rfl) JE.less Am.nil JE.start ?_
  simp only[TK]
  repeat(refine dE (fun wr nr hJ=>by(have hB:=bo.o.blk.ext hJ (by simp);have qp:=hB.cell;have a6:=hB.lt;unfold Db at qp;clear hB);clear hJ;exact CL) ?_;simp only[PT])
  refine Aj (fun wp hJ hF=>?_)
  have ak:=hd hJ;clear hJ hF;have au:=hd (bo.o.grow ak.o);have bp:=hd (HM.o.blk.ext ak.o (by simp));have bq:=hd (HM.o.res.ext ak.o (by simp));have qp:=au.o.blk.cell;have aB:=au.o.blk.frozen;have a6:=au.o.blk.lt;unfold Db at qp;have cb:=hd au.o.pop;have al:=hd (jL (b:=pb) (i:=3) (u:=.slice (some q) l.length am) (.inl (by simp)) (jF [pb] wp));go_upto_region 13 with fail
  generalize World.setCell wp _ _=wo at *;have cM:pb≠eb:=by have:=a7.o;omega
  have ce:=hd (bp.o.ext al.o (by rw[jA];omega));have br:=hd (bq.o.ext al.o (by rw[jA];omega));have aX:∀x∈[pb],¬Fr Hz (.slice (some q) (l.length+1) am) x:=fun x hx hh=>by rw[jA.1 hx] at hh;have:=hh.1;omega
  have cf:=hd (Ao.ext (Ao.ext HM.o.seq ak.o (by simp)) al.o aX);have cg:=hd (fun s hs=>StA.ext al.o aX (StA.ext ak.o (by simp) (HM.o.kid s hs)));have ch:=hd ((HM.o.ext.trans ak.o.nil).trans (al.o.mono fun x hx=>.inl (by rw[jA.1 hx];simp)));clear au bp bq al qp aB a6 aX;have ci:Hd (StA (Fr Hz (.slice (some q) l.length am)) (20+(d+1)) wo (.mk ⟨1,nm,lo,hi,step,vec,none,0,[],A,c,0,afZ,.mk exZ []⟩ ss)):=hd (.mk _ _ (Ao.nil ..) (fun a h=>by cases h) (Ao.nil ..) (.mk _ _ (Ao.nil ..) (Ao.nil ..) (fun e h=>by cases h)) (by show Al (.mk exZ [])<=20+(d+1);simp[Al,Ap];omega) (nt bH.o (by omega)) (by omega) (Ao.mono cf.o (fun b _ h=>h) (by omega)) (fun s hs=>StA.mono (fun b _ h=>h) (by omega) (cg.o s hs)));have cj:=hd (Rb (.mk ⟨1,nm,lo,hi,step,vec,none,0,[],A,c,0,afZ,.mk exZ []⟩ ss));have ck:Hd (Blk wo eb 43 (stA (.mk ⟨1,nm,lo,hi,step,vec,none,0,[],A,c,0,afZ,.mk exZ []⟩ ss))):=hd ce.o;have cl:=hd (Rc (.mk ⟨1,nm,lo,hi,step,vec,none,0,[],A,c,0,afZ,.mk exZ []⟩ ss));have aY:=hd (Mk (.mk ⟨1,nm,lo,hi,step,vec,none,0,[],A,c,0,afZ,.mk exZ []⟩ ss));have cm:=hd (show zSt.size=(stA (.mk ⟨1,nm,lo,hi,step,vec,none,0,[],A,c,0,afZ,.mk exZ []⟩ ss)).size from rfl);generalize St.mk ⟨1,nm,lo,hi,step,vec,none,0,[],A,c,0,afZ,.mk exZ []⟩ ss=sx at *;generalize stA sx=xa at *
  go_wp2_with (first
   | refine Ac rfl 43 _ rfl eb 0 rfl xa ck.o.wide _ underlying43 rfl aY.o ?_
   | (
     refine Bc rfl 43 _ _ rfl rb xa zSt 43 rfl rfl br.o aY.o cm.o cl.o ?_
     intro w8 hB8 hE8;have aV:=hd hB8;have a8:=hd hE8;clear hB8 hE8))
  refine bodyPost_ret (results_cell_row rfl _ _ rb 43 _ (0,0) _ rfl aV.o underlying43 rfl aY.o) rfl ?_
  rw[<-cj.o];refine⟨sx,.slice (some q) l.length am,cnt',rfl,StA.mono (fun b _ hb=>⟨by have:=hb.1;have:=a2.o;omega,hb.2⟩) (jD _) (StA.ext a8.o (fun x hx hh=>by rw[jA.1 hx] at hh;have:=hh.1;omega) ci.o),ch.o.step a8.o (fun x hx=>.inr (by rw[jA.1 hx];exact Nat.le_of_eq a2.o)),cb.o.one a8.o br.o (fun k hk=>by have:=(HM.o.row k hk).2.2;exact this) (by have:=aJ.o;omega),fun k hk=>(HM.o.row k hk).1⟩
end
section
theorem AfA.ext' {P:Nat->Prop}{N:Nat}{w w':World}{S:List Nat}(hE:Ext S w w')(hS:∀x∈S,¬P x){a:Af}(h:AfA P N w a):AfA P N w' a:=Ao.ext h hE hS
theorem AfA.mono' {P Q:Nat->Prop}{N M:Nat}{w:World}(hP:∀b,b<w.heap.size->P b->Q b)(hN:N<=M){a:Af}(h:AfA P N w a):AfA Q M w a:=Ao.mono h hP hN
theorem Oq (a:Af):(afC a).length=2:=rfl
structure LoF (w:World)(T:List Nat)(H base g pb n:Nat)(bA:Option Addr)(bc:Nat)(bs:List Bf)(Vz:Value)(lz:List St)(cnt:Int)(eb:Nat)(C:Value->Array Value)(v:Value)(ss:List Af)(wx:World):Prop where
 ext:Ext T w wx
 bld:Bld wx base g pb n bA bc bs Vz lz cnt
 blk:Blk wx eb 43 (C v)
 own:wx.ownsRow H 38 2 v ss.length (ss.flatMap afC)
 kid:∀s∈ss,AfA (fun b=>H<=b/\v.ownBlock≠some b) 20 wx s
 hz:∀q,Vz.ownBlock=some q->q<H/\q≠eb
 hb:∀q,(Value.slice bA bs.length bc).ownBlock=some q->q<w.heap.size
 tg:g∈T
 eb0:w.heap.size<=eb
 ebH:eb<H
 g0:g<w.heap.size
 p0:pb<w.heap.size
 hH:H<=wx.heap.size
section
variable {w wx wy:World} {T:List Nat} {H base g pb n m bc:Nat} {bA:Option Addr} {bs:List Bf} {Vz:Value} {lz:List St} {cnt:Int} {eb:Nat} {C:Value->Array Value} {v:Value} {ss:List Af}
theorem LoF.draw (h:LoF w T H base g pb n bA bc bs Vz lz cnt eb C v ss wx)(hE:Ext [g] wx wy)(hS:Stm wy base g m):LoF w T H base g pb m bA bc bs Vz lz cnt eb C v ss wy:=by
 have h0:=h.g0;have h2:=h.eb0;have h3:=h.ebH
 exact⟨h.ext.trans (hE.mono fun x hx=>.inl (by rw[jA.1 hx];exact h.tg)),h.bld.draw hE hS,h.blk.ext hE (by rw[jA];omega),
  Ah h.own hE fun q hq=>by have:=Ad h.own q hq;rw[jA];omega,fun x hx=>AfA.ext' hE (fun y hy hh=>by rw[jA.1 hy] at hh;have:=hh.1;omega) (h.kid x hx),h.hz,h.hb,h.tg,h.eb0,h.ebH,h.g0,h.p0,nt h.hH hE.size⟩
theorem LoF.less (h:LoF w T H base g pb n bA bc bs Vz lz cnt eb C v ss wx)(hm:m<=n):LoF w T H base g pb m bA bc bs Vz lz cnt eb C v ss wx:=⟨h.ext,h.bld.less hm,h.blk,h.own,h.kid,h.hz,h.hb,h.tg,h.eb0,h.ebH,h.g0,h.p0,h.hH⟩
theorem LoF.bldx (h:LoF w T H base g pb n bA bc bs Vz lz cnt eb C v ss wx){S:List Nat}(hE:Ext S wx wy)(hS:∀q∈S,H<=q\/q=eb):Bld wy base g pb n bA bc bs Vz lz cnt/\Ext T w wy:=by
 have h0:=h.g0;have h2:=h.eb0;have h3:=h.ebH;have hb:=h.bld.bpb;have hp:=h.p0;refine⟨?_,h.ext.step hE fun x hx=>.inr (by rcases hS x hx with e|e<;>omega)⟩
 refine⟨h.bld.stm.ext hE (fun hm=>by rcases hS _ hm with e|e<;>omega) (fun q hq=>by rcases hS _ hq with e|e<;>omega),h.bld.blk.ext hE (fun hm=>by rcases hS _ hm with e|e<;>omega),h.bld.bpb,Ah h.bld.buf hE fun q hq hm=>?_,Ah h.bld.row hE fun q hq hm=>?_,h.bld.bne,h.bld.b9,h.bld.bsz,h.bld.l3⟩
 ·rcases hS _ hm with e|e
  ·have:=h.hb q hq;omega
  ·exact Bx h.bld.buf h.blk (by decide) q hq e
 ·rcases hS _ hm with e|e
  ·have:=(h.hz q hq).1;omega
  ·exact(h.hz q hq).2 e
theorem LoF.more (h:LoF w T H base g pb n bA bc bs Vz lz cnt eb C v ss wx)(hE:Ext v.ownBlock.toList wx wy){g8 c8 k:Nat}{s:Af}(hC:∀a b,(C a).setIfInBounds k b=C b)
  (hO:wy.ownsRow H 38 2 (.slice (some g8) (ss.length+1) c8) (ss.length+1) (ss.flatMap afC ++ afC s)) (hg8:v.ownBlock=some g8\/wx.heap.size<=g8) (hs:AfA (fun b=>H<=b/\v.ownBlock≠some b) 20 wx s) :
  LoF w T H base g pb n bA bc bs Vz lz cnt eb C (.slice (some g8) (ss.length+1) c8) (ss ++ [s]) (wy.setCell ⟨eb,k,none⟩ (.slice (some g8) (ss.length+1) c8)):=by
 have a1:Ext [eb] wy (wy.setCell ⟨eb,k,none⟩ (.slice (some g8) (ss.length+1) c8)):=jL (.inl (by simp)) (jF _ _);have g0:=h.g0;have h2:=h.eb0;have h3:=h.ebH;have hq:∀q∈v.ownBlock.toList,H<=q:=fun q hq=>Ad h.own q (jC.1 hq)
 have a8:H<=g8:=Ad hO g8 rfl;have a2:Ext (eb :: v.ownBlock.toList) wx (wy.setCell ⟨eb,k,none⟩ (.slice (some g8) (ss.length+1) c8)):=(hE.mono fun x hx=>.inl (jI _ hx)).trans (a1.mono fun x hx=>.inl (by rw[jA.1 hx];simp));have hb:Blk wy eb 43 (C v):=h.blk.ext hE fun hm=>by have:=hq _ hm;omega
 have step:∀z,AfA (fun b=>H<=b/\v.ownBlock≠some b) 20 wx z->AfA (fun b=>H<=b/\(Value.slice (some g8) (ss.length+1) c8).ownBlock≠some b) 20 (wy.setCell ⟨eb,k,none⟩ (.slice (some g8) (ss.length+1) c8)) z:=fun z hz=>by
  have z1:=AfA.mono' (Q:=fun b=>H<=b/\b≠g8/\v.ownBlock≠some b) (fun b hb hh=>⟨hh.1,(by rintro rfl;rcases hg8 with e|e;exact hh.2 e;omega),hh.2⟩) (jD _) hz;have z2:=AfA.ext' hE (fun y hy hh=>hh.2.2 (jC.1 hy)) z1;have z3:=AfA.ext' a1 (fun y hy hh=>by rw[jA.1 hy] at hh;have:=hh.1;omega) z2;exact AfA.mono' (fun b _ hh=>⟨hh.1,fun e=>by cases e;exact hh.2.1 rfl⟩) (jD _) z3
 obtain⟨a6,a7⟩:=h.bldx a2 fun q hqq=>by
  rcases jE.1 hqq with e|e
  ·exact .inr e
  ·exact .inl (hq q e)
 refine⟨a7,a6,by have:=hb.set_ k (.slice (some g8) (ss.length+1) c8);rw[hC] at this;exact this,?_,fun x hx=>?_,h.hz,h.hb,h.tg,h.eb0,h.ebH,h.g0,h.p0,nt h.hH a2.size⟩
 ·rw[jG,List.flatMap_append];have e:List.flatMap afC [s]=afC s:=by simp
  rw[e];exact Ah hO a1 fun q hqq=>by have:=Ad hO q hqq;rw[jA];omega
 ·rcases jN.1 hx with hx|hx
  ·exact step x (h.kid x hx)
  ·rw[jA.1 hx];exact step s hs
theorem LoF.conds (h:LoF w T H base g pb n bA bc bs Vz lz cnt eb C v ss wx)(hl:ss.length<=20){A:Option Addr}{n0 c:Nat}(hv:v=.slice A n0 c):n0=ss.length/\Ao (fun b=>H<=b) 20 wx A 2 afC ss/\∀s∈ss,AfA (fun b=>H<=b) 20 wx s:=by
 subst hv;have hO:=h.own;obtain⟨A',c',e,-,-⟩:=Bg hO;cases e
 exact⟨rfl,(Ao.own (P:=fun b=>H<=b) Oq hO hl (by decide) (fun q _ h1 _=>h1)).2,fun s hs=>AfA.mono' (fun b _ hb=>hb.1) (jD _) (h.kid s hs)⟩
end
structure BoX (d:Nat)(w:World)(u:Value)(ss:List St)(V':Value)(wx:World):Prop where
 own:wx.ownsRow w.heap.size 43 21 u ss.length (ss.flatMap stC)
 kid:∀s∈ss,StA (fun b=>w.heap.size<=b/\u.ownBlock≠some b/\V'.ownBlock≠some b) (20+d) wx s
 sep:∀q,u.ownBlock=some q->V'.ownBlock≠some q
 siz:w.heap.size<=wx.heap.size
section
variable {d:Nat} {w wx wy:World} {u V' V'':Value} {ss:List St}
theorem BoX.keep (h:BoX d w u ss V' wx){S:List Nat}(hE:Ext S wx wy)(hS:∀q∈S,q<w.heap.size\/V'.ownBlock=some q):BoX d w u ss V' wy:=
 ⟨Ah h.own hE fun q hq hm=>by
  rcases hS q hm with e|e
  ·have:=Ad h.own q hq;omega
  ·exact h.sep q hq e,fun s hs=>StA.ext hE (fun y hy hh=>by
  rcases hS y hy with e|e
  ·have:=hh.1;omega
  ·exact hh.2.2 e) (h.kid s hs),h.sep,nt h.siz hE.size⟩
theorem BoX.grow (h:BoX d w u ss V' wx)(hE:Ext [] wx wy):BoX d w u ss V' wy:=h.keep hE (by simp)
theorem BoX.row (h:BoX d w u ss V' wx)(hV:∀q,V''.ownBlock=some q->V'.ownBlock=some q\/wx.heap.size<=q):BoX d w u ss V'' wx:=
 ⟨h.own,fun s hs=>StA.mono (fun b hb hh=>⟨hh.1,hh.2.1,fun e=>by
  rcases hV b e with e1|e1
  ·exact hh.2.2 e1
  ·omega⟩) (jD _) (h.kid s hs),fun q hq e=>by
  rcases hV q e with e1|e1
  ·exact h.sep q hq e1
  ·have:=(h.own.lt q hq).2;omega,h.siz⟩
theorem BoX.more (h:BoX d w u ss V' wx)(hE:Ext u.ownBlock.toList wx wy){g8 c8:Nat}{s:St}(hO:wy.ownsRow w.heap.size 43 21 (.slice (some g8) (ss.length+1) c8) (ss.length+1) (ss.flatMap stC ++ stC s))(hg8:u.ownBlock=some g8\/wx.heap.size<=g8)
  (hV:∀q,V'.ownBlock=some q->q<wx.heap.size) (hs:StA (fun b=>w.heap.size<=b/\u.ownBlock≠some b/\V'.ownBlock≠some b) (20+d) wx s):BoX d w (.slice (some g8) (ss.length+1) c8) (ss ++ [s]) V' wy:=by
 have step:∀z,StA (fun b=>w.heap.size<=b/\u.ownBlock≠some b/\V'.ownBlock≠some b) (20+d) wx z->StA (fun b=>w.heap.size<=b/\(Value.slice (some g8) (ss.length+1) c8).ownBlock≠some b/\V'.ownBlock≠some b) (20+d) wy z:=fun z hz=>by
  have z1:=StA.mono (Q:=fun b=>w.heap.size<=b/\b≠g8/\u.ownBlock≠some b/\V'.ownBlock≠some b) (fun b hb hh=>⟨hh.1,(by rintro rfl;rcases hg8 with e|e;exact hh.2.1 e;omega),hh.2⟩) (jD _) hz;have z2:=StA.ext hE (fun y hy hh=>hh.2.2.1 (jC.1 hy)) z1;exact StA.mono (fun b _ hh=>⟨hh.1,fun e=>by cases e;exact hh.2.1 rfl,hh.2.2.2⟩) (jD _) z2
 refine⟨?_,fun x hx=>?_,fun q hq e=>?_,nt h.siz hE.size⟩
 ·rw[jG,List.flatMap_append];have e:List.flatMap stC [s]=stC s:=by simp
  rw[e];exact hO
 ·rcases jN.1 hx with hx|hx
  ·exact step x (h.kid x hx)
  ·rw[jA.1 hx];exact step s hs
 ·have a1:q=g8:=by cases hq;rfl
  rcases hg8 with e1|e1
  ·exact h.sep g8 e1 (a1 ▸ e)
  ·have:=hV q e;omega
end
end
end Go.Proofs.YtfppibmloloakaaGreatDoor
