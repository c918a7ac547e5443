import Derived.Test.YtfppibmloloakaaGreatDoorK31
import Derived.Defers
import Derived.Recover
namespace Go.Proofs.YtfppibmloloakaaGreatDoor
open Go.RowKit Go.Proofs.Tryz
set_option linter.all false
set_option maxHeartbeats 64000000
section
theorem Me.copy {H mb:Nat}{w:World}{wv sv:Value}{R:List (Nat×Nat)}(h:Me H mb 2 w wv sv R)(hm:mb<H):∃wb sb cw cs b0 c0 b1 c1,Kh w mb wb sb cw cs b0 c0 b1 c1 0/\H<=b1/\H<=c1/\H<=wb/\H<=sb/\H<=b0/\H<=c0:=by
 obtain⟨⟨b0,c0⟩,⟨b1,c1⟩,rfl⟩:∃x y,R=[x,y]:=by
  have:=h.len
  match R,this with
  | [x,y],_=>exact⟨x,y,rfl⟩
 obtain⟨wA,cw,rfl,-,hw⟩:=Bg h.wr;obtain⟨sA,cs,rfl,-,hs⟩:=Bg h.sr;obtain⟨wb,rfl,a8,ab⟩:=hw (by omega);obtain⟨sb,rfl,aa,ac⟩:=hs (by omega);obtain⟨a1,a2,a3,a4⟩:=h.row 0 _ rfl;obtain⟨d1,d2,d3,d4⟩:=h.row 1 _ rfl;obtain⟨e1,e2⟩:=h.apart _ _ rfl rfl;obtain⟨CW,a6⟩:=Cl h.wr rfl;obtain⟨CS,a7⟩:=Cl h.sr rfl;have w0:=Dg h.wr (g:=wb) rfl (i:=0) rfl;have w1:=Dg h.wr (g:=wb) rfl (i:=1) rfl;have s0:=Dg h.sr (g:=sb) rfl (i:=0) rfl;have s1:=Dg h.sr (g:=sb) rfl (i:=1) rfl;refine⟨wb,sb,cw,cs,b0,c0,b1,c1,⟨⟨h.blk,fun i x hx=>?_,by simp,fun x hx=>?_⟩,a3,a4,d3,d4,⟨e1,e2,a3.apart d4 (by decide),a4.apart d3 (by decide),h.blk.apart d3 (by decide),h.blk.apart d4 (by decide),a6.apart d3 (by decide),a6.apart d4 (by decide),a7.apart d3 (by decide),a7.apart d4 (by decide)⟩⟩,d1,d2,a8,aa,a1,a2⟩
 ·have hi:=(ils hx).1;simp only[List.length_cons,List.length_nil] at hi;have:i=0\/i=1:=by omega
  rcases this with rfl|rfl
  ·cases hx;exact⟨w0,s0⟩
  ·cases hx;exact⟨w1,s1⟩
 ·simp only[jE,jH,or_false] at hx;rcases hx with rfl|rfl<;>simp
theorem Aew (a b c:Addr)(w:World):CallsD prog 95 #[.pointer (some a),.pointer (some b),.pointer (some c)] .returning w fun e u' w'=>e=.returned (.tuple #[])/\u'=.returning/\w'=w:=by
 refine callsD_of_wpS func95 rfl fun c₀ cs hu=>?_
 apply wpS_seq
 apply wpS_region
 simp[wpOpsS,go_sem,recoverD,hu,ntmps95,Exit.thenS];refine wpS_of_wp ?_
 go_wp2_with fail
 cases c₀
 simp_all [bodyPostS,results,Tryz.results95]
theorem Ti {w:World}{b i:Nat}{t:TypeId}{C:Array Value}{v:Value}(h:Blk w b t C)(hC:C[i]? = some v):w.setCell ⟨b,i,none⟩ v=w:=by
 have hs:C.setIfInBounds i v=C:=by
  apply Array.ext_getElem?
  intro k;rw[Array.getElem?_setIfInBounds];split
  ·rename_i h1
   subst h1;split
   ·exact hC.symm
   ·rename_i h2
    rw[Array.getElem?_eq_none (by omega)] at hC;cases hC
  ·rfl
 unfold World.setCell
 have hm:(w.heap.modify b fun
   | .cells c elem frozen=>.cells (if(⟨b,i,none⟩:Addr).spot.isSome then c else c.setIfInBounds i v) elem frozen
   | o=>o)=w.heap:=by
  apply Array.ext_getElem?
  intro k;rw[Array.getElem?_modify];split
  ·rename_i h1
   subst h1;unfold Blk at h;rw[h];simp[hs]
  ·rfl
 exact congrArg (fun x=>{w with heap:=x }) hm
theorem Zn {fn:Func}{p q r:Tmp}(h:fn.results=#[.cell p 102,.cell q 103,.cell r 46])(tmps:Array Value)(w:World)(a b c:Nat)(x y z:Value)
  (hp:tmps.getD p undef=.pointer (some a)) (hq:tmps.getD q undef=.pointer (some b)) (hr:tmps.getD r undef=.pointer (some c))
  (ha:Blk w a 102 #[x]) (hb:Blk w b 103 #[y]) (hc:Blk w c 46 #[z]):(results fn tmps).run prog w=.ok (.tuple #[x,y,z]) w:=by
 have hp':tmps[p]?.getD undef=.pointer (some a):=by simpa using hp
 have hq':tmps[q]?.getD undef=.pointer (some b):=by simpa using hq
 have hr':tmps[r]?.getD undef=.pointer (some c):=by simpa using hr
 have h1:=ha.cell 0;have h2:=hb.cell 0;have h3:=hc.cell 0;have u1:=run_underlying (P:=prog) underlying102;have u2:=run_underlying (P:=prog) underlying103;have u3:=run_underlying (P:=prog) underlying46;simp[results,h,hp',hq',hr',asAddr,loadVar,isAgg,Sem.run_bind,u1,u2,u3,go_sem,h1,h2,h3]
attribute [local irreducible] Bj
set_option maxRecDepth 100000 in
theorem Ahm (bs:List Bf)(lB:Option Addr)(lc:Nat)(h hs:SH)(ab ib vb:Nat)(w:World)(hb2:bs.length=2)(hP:Lz w ⟨some ab,2,bs,lB,lc,[.mk h [.mk hs []]]⟩)(hck:Cd bs [.mk h [.mk hs []]]=0)
  (hF:Ahj h) (hS:Ac7 hs) (hB:Aev w ab ib vb) :
  Calls prog 42 #[.agg #[.slice (some ab) 2 2,.slice lB 1 lc],.slice (some ib) 2 2] w fun e w'=>∃(mb wb sb cw cs b0 c0 b1 c1:Nat),e=.returned (.tuple #[.slice (some wb) 2 cw,.slice (some sb) 2 cs,(0:Int)])/\Ext [] w w'/\Kh w' mb wb sb cw cs b0 c0 b1 c1 2:=by
 have b7:∀(fn:Fn) (first cap:Array Value) (w:World),(Instr.makeFunc fn first cap).run prog w=.ok (.func fn first cap) w:=fun _ _ _ _=>rfl
 have a7:=hd (fun W (hW:Ext [] w W)=>Iz _ W (hP.keep hW));have aG:=hd hB;have aH:=hd hF;have aI:=hd hS;have ax:=hd hck;have aJ:=hd hb2;have b8:=hB.bufs.lt;have ba:=hB.ins.lt;have bb:=hB.wds.lt;unfold Ok pgV at a7;dsimp only at a7;rw[aJ.o,ax.o] at a7;simp only[List.length_cons,List.length_nil,Nat.zero_add] at a7;clear hP hck hF hS hB hb2;go_enter_defers func42,ntmps42
 go_upto_region 1 with fail
 generalize hW:World.alloc (World.alloc (World.alloc (World.alloc w _) _) _) _=w1;generalize ai:w.heap.size=s at *;have ay:Hd (Ext [] w w1):=hd (by rw[<-hW];exact((((jF [] w).alloc _).alloc _).alloc _).alloc _);have an:Hd (Blk w1 s 29 #[.slice (some ab) 2 2,.slice lB 1 lc]):=hd (by rw[<-hW];exact(((Blk.new' w _ _ s ai.symm).alloc _).alloc _).alloc _);have aK:Hd (Blk w1 (s+1) 102 #[.slice none 0 0]):=hd (by rw[<-hW];exact((Blk.new' _ _ _ (s+1) (by rw[Ag,ai])).alloc _).alloc _);have aL:Hd (Blk w1 (s+1+1) 103 #[.slice none 0 0]):=hd (by rw[<-hW];exact(Blk.new' _ _ _ (s+1+1) (by rw[Ag,Ag,ai])).alloc _);have aM:Hd (Blk w1 (s+1+1+1) 46 #[(0:Int)]):=hd (by rw[<-hW];exact Blk.new' _ _ _ (s+1+1+1) (by rw[Ag,Ag,Ag,ai]));have bc:w1.heap.size=s+1+1+1+1:=by rw[<-hW,Ag,Ag,Ag,Ag,ai]
 clear hW;generalize bt:s+1=ra at *;generalize bu:ra+1=rb at *;generalize bv:rb+1=rd at *;have qp:=an.o.cell;have ao:=an.o.lt;go_wp2_with fail
 refine(a7.o w1 ay.o).mono ?_
 rintro e w2 ⟨hE,⟨h1,-⟩|⟨-,n,cb,gs,gA,gc,L,AL,sA,sc,av,rfl,bp,hn,hC⟩⟩
 ·exact absurd rfl h1
 have az:=hd (ay.o.trans hE);have aA:=hd (an.o.ext hE (by simp));have aN:=hd (aK.o.ext hE (by simp));have aO:=hd (aL.o.ext hE (by simp));have aa:=hd (aM.o.ext hE (by simp));have aP:=hd hC;have bd:=hE.size;clear hE hC qp ao a7;have ac:Hd (w2.setCell ⟨rd,0,none⟩ (.int .i64 0)=w2):=hd (Ti aa.o rfl);have qd:=aa.o.cell;have ad:=aa.o.frozen;have aj:=aa.o.lt;go_upto_region 2 with fail
 rw[ac.o];have qp:=aA.o.cell;have ao:=aA.o.lt;have aQ:=hd (Abs ab ib vb w2 (aG.o.ext az.o (by simp)));go_wp2_with fail
 refine aQ.o.mono ?_
 rintro e w3 ⟨mb,H,wv,sv,R,rfl,hE,bq,b6,hR⟩;have aB:=hd (az.o.trans hE);have aR:=hd (aN.o.ext hE (by simp));have aS:=hd (aO.o.ext hE (by simp));have ae:=hd (aa.o.ext hE (by simp));have a1:=hd (aP.o.step hE (by simp) (jD n));have aT:=hd hR;have be:=hE.size;clear hE hR qp ao qd ad aj ac;have ap:Hd (w3.setCell ⟨rd,0,none⟩ (.int .i64 0)=w3):=hd (Ti ae.o rfl);have qd:=ae.o.cell;have ad:=ae.o.frozen;have aj:=ae.o.lt;go_upto_region 5 with fail
 rw[ap.o];go_upto_region 8 with fail
 clear qd ad aj;have HQ:Hd (∀W,Ext [] w3 W->W.cell? ⟨cb,2,none⟩=some (.slice gA 1 gc)/\cb<W.heap.size):=hd fun W hW=>⟨(a1.o.blk.ext hW (by simp)).cell 2,(a1.o.blk.ext hW (by simp)).lt⟩
 refine rgH 6 [(5,Et w3.heap.size)] ?_ ?_
 ·refine Am.cons Et.stays Am.nil
 simp only[TK]
 repeat(refine dE (fun wr nr hJ=>by(obtain⟨q2,ql⟩:=HQ.o wr hJ.1);clear hJ;exact CL) ?_;simp only[PT])
 refine Gi (Et w3.heap.size) rfl rfl (fun wr nr hJ hf=>?_) ?_
 ·refine⟨wr.heap.size,.cells (Array.replicate 8 (.int .i64 0)) 3,?_,hJ.1.size,Bn.made wr⟩
  have bf:=Ma wr;(go_simp;try go_bits)
  rfl
 intro (eb:Nat);simp only[PT]
 repeat(refine dE (fun wr nr hJ=>by clear hJ;exact CL) ?_;simp only[PT])
 refine Aj (fun w4 hJ hF=>?_)
 have aC:Hd (w3.heap.size<=eb/\Bn w4 eb []):=hd (hF 5);have a8:=hd hJ.1;clear hF hJ;dsimp only[Et];have bh:=aC.o.1;obtain⟨wb,sb,cw,cs,b0,c0,b1,c1,a2,l1,l2,l3,l4,l5,l6⟩:=aT.o.copy b6;have aq:=hd (a2.ext a8.o (by simp))
 have aU:=hd (Jg.of (show Du bs [.mk h [.mk hs []]]=0 by
  have h1:=ax.o;unfold Cd at h1;split at h1
  ·assumption
  ·exact absurd h1 (by assumption)))
 have aD:=hd ((⟨a1.o.row.1,fun b o hA=>(a1.o.row.2 b o hA).1,a1.o.len,fun i g s hg hs=>by have:=a1.o.cst i g s hg hs;rw[Nat.zero_add];exact this,aU.o.fd⟩:Dh w3 n bs.length L AL [] [] [] 0 gA gs [.mk h [.mk hs []]]).step a8.o (by simp));have bl:=a2.mem.blk.lt;have aV:=jB w3 _ (a2.mem.row 0 _ rfl).1;have aW:=jB w3 _ (a2.mem.row 0 _ rfl).2;have k1:=a2.w0.lt;have k2:=a2.s0.lt;have k3:=a2.w1.lt;have k4:=a2.s1.lt;simp only at aV aW;have aE:=hd (Ahk mb wb sb cw cs b0 c0 b1 c1 eb n bs.length h hs gA gc gs 0 [] [] L AL w4 aq.o aH.o aI.o aD.o aC.o.2 (by omega) ⟨by omega,by omega⟩ ⟨by omega,by omega,by omega,by omega,by omega,by omega,by omega⟩);clear a2 aD;go_wp2_with fail
 refine aE.o.mono ?_
 rintro e w5 ⟨rfl,hE,a2⟩;have a6:=hd a2
 have aX:Hd (Ext [] w w5):=hd ((aB.o.trans a8.o).step hE fun x hx=>.inr (by
  have:=aB.o.size;simp only[jE,jH,or_false] at hx;rcases hx with rfl|rfl|rfl<;>omega))
 have au:Hd (ra∉[eb,b1,c1]/\rb∉[eb,b1,c1]/\rd∉[eb,b1,c1]):=hd (by
  simp only[jE,jH,or_false];omega)
 have ak:=hd ((aR.o.ext a8.o (by simp)).ext hE au.o.1);have al:=hd ((aS.o.ext a8.o (by simp)).ext hE au.o.2.1);have am:=hd ((ae.o.ext a8.o (by simp)).ext hE au.o.2.2);clear hE a2 aE;have qm:=a6.o.mem.blk.cell;have bi:=a6.o.mem.blk.lt;simp only[List.length_cons,List.length_nil,Nat.zero_add,Nat.reduceAdd] at qm;have qa:=ak.o.cell;have aY:=ak.o.frozen;have bj:=ak.o.lt;have qc:=al.o.cell;have aZ:=al.o.frozen;have bk:=al.o.lt;have qd:=am.o.cell;have ad:=am.o.frozen;have aj:=am.o.lt;have af:ra≠rb:=by omega
 have ag:ra≠rd:=by omega
 have ah:rb≠rd:=by omega
 have bm:mb≠ra:=by omega
 have bn:mb≠rb:=by omega
 have bo:mb≠rd:=by omega
 go_upto_region 9 with fail
 go_region
 have b2:=hd (((ak.o.set_' 0 (.slice (some wb) 2 cw) #[.slice (some wb) 2 cw] rfl).far (p:=⟨rb,0,none⟩) af (.slice (some sb) 2 cs)).far (p:=⟨rd,0,none⟩) ag (.int .i64 0)).drew;have b3:=hd (((al.o.far (p:=⟨ra,0,none⟩) (Ne.symm af) (.slice (some wb) 2 cw)).set_' 0 (.slice (some sb) 2 cs) #[.slice (some sb) 2 cs] rfl).far (p:=⟨rd,0,none⟩) ah (.int .i64 0)).drew;have b4:=hd (((am.o.far (p:=⟨ra,0,none⟩) (Ne.symm ag) (.slice (some wb) 2 cw)).far (p:=⟨rb,0,none⟩) (Ne.symm ah) (.slice (some sb) 2 cs)).set_' 0 (.int .i64 0) #[(0:Int)] rfl).drew;have aF:=hd ((((jF [ra,rb,rd] w5).setAt (b:=ra) (i:=0) (u:=.slice (some wb) 2 cw) (.inl (by simp))).setAt (b:=rb) (i:=0) (u:=.slice (some sb) 2 cs) (.inl (by simp))).setAt (b:=rd) (i:=0) (u:=.int .i64 0) (.inl (by simp))).drew;generalize World.drew _=w6 at *;have aw:=hd (a6.o.ext aF.o (by simp only[jE,jH,or_false];omega))
 have b5:Hd (Ext [] w w6):=hd (aX.o.step aF.o fun x hx=>.inr (by
  simp only[jE,jH,or_false] at hx;rcases hx with rfl|rfl|rfl<;>omega))
 clear qm qa aY qc aZ qd ad;go_wp2_with fail
 refine leaves_cons (f:=95) (args:=#[.pointer (some ra),.pointer (some rb),.pointer (some rd)]) (by simp) (by simp[go_sem]) ?_
 refine(Aew ⟨ra,0,none⟩ ⟨rb,0,none⟩ ⟨rd,0,none⟩ _).mono ?_
 rintro e u' br ⟨rfl,rfl,rfl⟩;exact⟨_,Zn rfl _ _ ra rb rd _ _ _ rfl rfl rfl b2.o b3.o b4.o,mb,wb,sb,cw,cs,b0,c0,b1,c1,rfl,b5.o,aw.o⟩
end
def afI (b:Nat):Af:=⟨0,some b,1,[(nmI,1)]⟩
def afZ:Af:=⟨0,none,0,[]⟩
def exI (b:Nat):EH:=⟨3,0,0,0,0,0,0,afI b,none,0⟩
def exZ:EH:=⟨0,0,0,0,0,0,0,afZ,none,0⟩
def hsI (b:Nat):SH:=⟨3,⟨#[]⟩,0,0,0,false,none,0,[],none,0,1,afI b,.mk (exI b) []⟩
def hfI (s:Nat):SH:=⟨1,nmI,0,2,1,false,none,0,[],some s,1,0,afZ,.mk exZ []⟩
def bsI:List Bf:=[⟨⟨#[97]⟩,2,true,none,0,[]⟩,⟨⟨#[98]⟩,2,false,none,0,[]⟩]
def pgI (b s a f:Nat):Pg:=⟨some a,2,bsI,some f,1,[.mk (hfI s) [.mk (hsI b) []]]⟩
theorem Aj2 (b:Nat)(x:Int):evA [(nmI,x)] (afI b)=x:=by
 have h:lk [(nmI,x)] nmI=x:=by simp[lk,eqS]
 simp[evA,afI,h]
theorem Ajb (b:Nat):Ac7 (hsI b):=⟨rfl,rfl,Aj2 b,exI b,rfl,rfl,rfl,Aj2 b⟩
theorem Ajc (s:Nat):Ahj (hfI s):=⟨rfl,rfl,rfl,rfl,rfl,by kernel_rfl⟩
theorem Ahn (b s:Nat):Cd bsI [.mk (hfI s) [.mk (hsI b) []]]=0:=by kernel_rfl
theorem Ajd (b s:Nat):(Qd [.mk (hfI s) [.mk (hsI b) []]]).length=2:=by kernel_rfl
theorem Aho (b s a f:Nat):Jj (pgI b s a f)=0:=by kernel_rfl
theorem Akp:∃i,prog.info? 43=some i/\i.zero=some (.agg zSt)/\i.size=21:=by
 have h:((prog).info? 43).map (fun i=>(i.zero,i.size))=some (some (.agg zSt),21):=by kernel_rfl
 obtain⟨i,hi,he⟩:=Option.map_eq_some_iff.1 h;simp only[Prod.mk.injEq] at he;exact⟨i,hi,he.1,he.2⟩
theorem Mf (w:World)(h:SH)(n:Nat)(x:EH)(m:Nat):(Instr.buildSlice 27 1 #[(0,.agg (Ai h n x m))]).run prog w=.ok (.slice (some w.heap.size) 1 1) (w.alloc (.cells (Ai h n x m) 43)):=by
 obtain⟨i0,a2,a6,a1⟩:=Akp;refine run_buildSlice w _ _ 1 _ _ i0 _ underlying27 a2 a6 (by rw[a1];decide) (by rw[a1];decide) ?_
 rw[a1];have hz:((Array.range (1*21)).map (fun x=>(Value.agg zSt).cells[x % (Value.agg zSt).cells.size]!))=zSt:=by kernel_rfl
 rw[hz];simp[Instr.fill,Ai,zSt,Value.cells]
theorem Ahp (w:World):(Instr.buildSlice 26 2 #[(0,.agg #[.string ⟨#[97]⟩,(2:Int),.bool true,.slice none 0 0]),(1,.agg #[.string ⟨#[98]⟩,(2:Int),.bool false,.slice none 0 0])]).run prog w=.ok (.slice (some w.heap.size) 2 2) (w.alloc (.cells #[.string ⟨#[97]⟩,(2:Int),.bool true,.slice none 0 0,.string ⟨#[98]⟩,(2:Int),.bool false,.slice none 0 0] 45)):=by kernel_rfl
theorem Br {P:Program}{ops:Array Oper}{rest:List Oper}{o:Oper}{a:Act}{w:World}{Q:Exit->Act->World->Prop}(hg:o.guard=none)(v:Value)(w':World)(hr:(execOp a.eval o).run P w=.ok (.value v) w')
  (h:wpList P ops Q rest (a.put o.dst v) w'):wpList P ops Q (o :: rest) a w:=
 wpList_plain hg fun _ hK=>by unfold Oper.wp;rw[hr];exact hK _ _ h
theorem Fc {α:Type}(w:World)(A:Option Addr)(k:Nat)(cs:α->List Value):Ak w A k cs []:=⟨by simp,.inl rfl⟩
theorem Qz {α:Type}{w:World}{b k:Nat}{cs:α->List Value}{x:α}(h:∀(j:Nat) (v:Value),(cs x)[j]? = some v->w.cell? ⟨b,j,none⟩=some v):Ak w (some b) k cs [x]:=⟨by simp,.inr ⟨b,rfl,fun i y hy j v hv=>by
 have hi:=(ils hy).1;simp only[jS] at hi;have:i=0:=by omega
 subst this;cases hy
 rw[Nat.zero_mul,Nat.zero_add];exact h j v hv⟩⟩
theorem Akq {w:World}{b s a f:Nat}(hT:Blk w b 178 #[.string ⟨#[105]⟩,(1:Int)])(hS:Blk w s 43 (Ai (hsI b) 0 (exI b) 0))
  (hA:Blk w a 45 #[.string ⟨#[97]⟩,(2:Int),.bool true,.slice none 0 0,.string ⟨#[98]⟩,(2:Int),.bool false,.slice none 0 0]) (hF:Blk w f 43 (Ai (hfI s) 1 exZ 0)):Lz w (pgI b s a f):=by
 have a1:Jn w (afI b):=Qz fun j v hv=>by
  rw[hT.cell];simpa[tmC,nmI] using hv
 have hZ:Jn w afZ:=Fc ..;have hs:Gc w (.mk (hsI b) []):=.mk _ _ (Fc ..) (fun a h=>by simp[hsI] at h) a1 (.mk _ _ a1 (Fc ..) (fun e h=>by simp at h)) (by simp[hsI,Al,Ap]) (by show(⟨#[]⟩:ByteArray).size<=1000000;decide) (Fc ..) (fun s h=>by simp at h);refine⟨⟨by simp[pgI,bsI],.inr ⟨a,rfl,fun i x hx j v hv=>?_⟩⟩,fun x hx=>?_,⟨by simp[pgI,bsI],by simp[pgI]⟩,Qz fun j v hv=>?_,fun x hx=>?_⟩
 ·rw[hA.cell];have hi:=(ils hx).1;simp only[pgI,bsI,List.length_cons,List.length_nil] at hi;have a2:i=0\/i=1:=by omega
  have hj:=(ils hv).1;simp only[bfC,List.length_cons,List.length_nil] at hj;have a6:j=0\/j=1\/j=2\/j=3:=by omega
  rcases a2 with rfl|rfl<;>cases hx<;>rcases a6 with rfl|rfl|rfl|rfl<;>exact hv
 ·simp only[pgI,bsI,jE,jH,or_false] at hx;rcases hx with rfl|rfl<;>exact⟨Fc ..,by decide⟩
 ·rw[hF.cell];simpa[stC,stH,stK,Ai,hfI,exZ,Ex.h,Ex.ks] using hv
 ·simp only[pgI,jE,jH,or_false] at hx;subst hx;refine .mk _ _ (Fc ..) (fun a h=>by simp[hfI] at h) hZ (.mk _ _ hZ (Fc ..) (fun e h=>by simp at h)) (by simp[hfI,Al,Ap]) (by show nmI.size<=1000000;decide) (Qz fun j v hv=>?_) (fun x hx=>?_)
  ·rw[hS.cell];simpa[stC,stH,stK,Ai,hsI,exI,Ex.h,Ex.ks] using hv
  ·rw[jA.1 hx];exact hs
theorem Qe {P:Program}{ops:Array Oper}{rest:List Oper}{o:Oper}{a:Act}{w:World}{Q:Exit->Act->World->Prop}(ty:TypeId)(x y:Operand)(ho:o.op=.store ty x y)(h:Hd (wpList P ops Q (o :: rest) a w)):wpList P ops Q (o :: rest) a w:=h.o
set_option maxRecDepth 100000 in
theorem Ahq (w:World):Calls prog 43 #[] w fun e w'=>∃b s a f,e=.returned (pgV (pgI b s a f))/\Ext [] w w'/\Lz w' (pgI b s a f)/\Blk w' a 45 #[.string ⟨#[97]⟩,(2:Int),.bool true,.slice none 0 0,.string ⟨#[98]⟩,(2:Int),.bool false,.slice none 0 0]:=by
 go_enter func43,ntmps43
 go_upto_region 2 with fail
 generalize hW:World.alloc (World.alloc (World.alloc w _) _) _=w3;generalize a7:w.heap.size=s at *;have al:Hd (Ext [] w w3):=hd (by rw[<-hW];exact(((jF [] w).alloc _).alloc _).alloc _);have am:Hd (Blk w3 s 29 #[.slice none 0 0,.slice none 0 0]):=hd (by rw[<-hW];exact((Blk.new' w _ _ s a7.symm).alloc _).alloc _);have an:Hd (Blk w3 (s+1) 178 #[.string ⟨#[105]⟩,(1:Int)]):=hd (by rw[<-hW];exact(Blk.new' _ _ _ (s+1) (by rw[Ag,a7])).alloc _);have af:Hd (Blk w3 (s+1+1) 38 #[(0:Int),.slice (some ⟨s+1,0,none⟩) 1 1]):=hd (by rw[<-hW];exact Blk.new' _ _ _ (s+1+1) (by rw[Ag,Ag,a7]));have a8:w3.heap.size=s+1+1+1:=by rw[<-hW,Ag,Ag,Ag,a7]
 clear hW;generalize aD:s+1=sb at *;generalize aE:sb+1=sa at *;have ag:=hd (show(prog.info? 43).map (·.size)=some (Ai (hsI sb) 0 (exI sb) 0).size from Dv);have ao:=hd (show zSt.size=(Ai (hsI sb) 0 (exI sb) 0).size from rfl);have ap:=hd (Cz (hsI sb) 0 (exI sb) 0);have ah:=hd (jK w3 43 (Ai (hsI sb) 0 (exI sb) 0));have a1:=hd ((jF [] w3).alloc (.cells (Ai (hsI sb) 0 (exI sb) 0) 43));have aa:(w3.alloc (.cells (Ai (hsI sb) 0 (exI sb) 0) 43)).heap.size=w3.heap.size+1:=Ag _ _;have ai:=fun W=>Mf W (hsI sb) 0 (exI sb) 0
 have qa:=af.o.cell;have aq:=af.o.lt;go_upto_region 3 with(refine Ax rfl rfl 43 _ _ rfl rfl zSt (Ge _) (Ai (hsI sb) 0 (exI sb) 0) rfl rfl ag.o ao.o ap.o ?_)
 clear qa aq;generalize a2:Ai (hsI sb) 0 (exI sb) 0=arr at *;have ab:=hd a2;clear a2;generalize hW:World.alloc w3 _=w4 at *;generalize aF:w3.heap.size=s3 at *;have a6:=hd (am.o.ext a1.o (by simp));have au:=hd (an.o.ext a1.o (by simp));have aw:=hd (al.o.trans a1.o);clear hW;simp only[PT];have hbf:=Ahp;have aj:=fun W b=>Mf W (hfI b) 1 exZ 0
 dsimp only[Ai,hfI,afZ,exZ,List.length_nil,nmI] at aj;have qs:=a6.o.cell;have ax:=a6.o.frozen;have aB:=a6.o.lt;have aC:=ah.o.lt
 go_wp2_with (first
  | refine Ac rfl 43 _ rfl s3 0 rfl arr (Blk.wide (ah.o.alloc _)) _ underlying43 rfl ag.o ?_
  | refine Br rfl _ _ (As (t:=27) (n:=1) (i:=0) (x:=.tmp 13) rfl _ _ _ _ (.agg arr) rfl (ai _)) ?_
  | refine Qe 29 _ _ rfl ?_)
 refine hd ?_
 refine Bc rfl 29 _ _ rfl s _ #[.slice none 0 0,.slice none 0 0] 29 rfl rfl (((a6.o.alloc _).alloc _).alloc _) (by kernel_rfl) rfl (by simp;repeat(first|exact rfl|refine⟨rfl,?_⟩)) ?_
 intro w9 hB9 hE9;have ay:=hd hB9;have az:=hd ((((aw.o.alloc _).alloc _).alloc _).step hE9 fun x hx=>.inr (by rw[jA.1 hx];omega));have ak:=hd ((((au.o.alloc _).alloc _).alloc _).ext hE9 (by rw[jA];omega));have ac:=hd ((((jK w4 _ _).alloc _).alloc _).ext hE9 (by rw[jA];omega));have ad:=hd (((jK (w4.alloc _) _ _).alloc _).ext hE9 (by rw[jA,Ag];omega));have ae:=hd ((jK ((w4.alloc _).alloc _) _ _).ext hE9 (by rw[jA,Ag,Ag];omega));clear hB9 hE9;rw[Ag,aa,a8] at ad;rw[Ag,Ag,aa,a8] at ae;rw[aa,a8] at ac;have aA:Hd (Lz w9 (pgI sb (sa+1+1+1) (sa+1+1) (sa+1+1+1+1))):=hd (Akq ak.o (by rw[ab.o];exact ad.o) ac.o ae.o);clear aj hbf ai qs ax ad ae ak;go_wp2_with fail
 exact bodyPost_ret (results_cell_row rfl _ _ s 29 _ (0,0) _ rfl ay.o underlying29 rfl (by kernel_rfl)) rfl ⟨sb,sa+1+1+1,sa+1+1,sa+1+1+1+1,rfl,az.o,aA.o,ac.o⟩
theorem Ug {xs ys:List Int}{n:Nat}(hx:xs.length=n)(hy:ys.length=n)(h:∀j,j<n->xs[j]? = ys[j]?):xs=ys:=by
 apply List.ext_getElem?
 intro i;rcases Nat.lt_or_ge i n with h1|h1
 ·exact h i h1
 ·rw[List.getElem?_eq_none (by omega),List.getElem?_eq_none (by omega)]
set_option maxRecDepth 100000 in
theorem Abt (A B:Option Addr)(ca cb n:Nat)(xs ys:List Int)(w:World)(hA:RdI w A xs)(hB:RdI w B ys)(hl:n<=9223372036854775807)(hx:xs.length=n)(hy:ys.length=n) :
  Calls prog 44 #[.slice A n ca,.slice B n cb] w fun e w'=>e=.returned (.bool (decide (xs=ys)))/\Ext [] w w':=by
 have HA:=hd hA;have HB:=hd hB;have a2:=hd hx;have a6:=hd hy;clear hA hB hx hy;go_enter func44,ntmps44
 go_wp2_with fail
 go_loopw [13] (fun i wr=>∃k:Nat,i=.int .i64 k/\k<=n/\Ext [] w wr/\Hd (∀j,j<k->xs[j]? = ys[j]?)) (fun i _=>(n-intOf i).toNat)
 case atStart=>exact⟨0,rfl,jQ _,jF _ _,hd fun j hj=>absurd hj (by omega)⟩
 case round=>
  obtain⟨k,rfl,hk,hE,HN⟩:=hrel;have HE:=hd hE;by_cases ab:k<n
  ·have hx:=jJ (l:=xs) (i:=k) (by have:=a2.o;omega);have hy:=jJ (l:=ys) (i:=k) (by have:=a6.o;omega);rcases HA.o.ext hE (by simp) with h0|⟨b,o,rfl,hc⟩
   ·have:=a2.o;simp[h0] at this;omega
   rcases HB.o.ext hE (by simp) with h0|⟨b2,o2,rfl,a7⟩
   ·have:=a6.o;simp[h0] at this;omega
   have a8:=hc k _ hx;have aa:=a7 k _ hy;have HX:=hd hx;have HY:=hd hy;generalize xs[k]'_=x at a8 HX;generalize ys[k]'_=y at aa HY;clear hc a7 hx hy hE;by_cases a1:x=y
   ·subst a1;go_wp2_with fail
    go_quiet (fail)
    go_wp2_with fail
    go_roundw
    case rel=>
     refine⟨k+1,by go_num,by omega,HE.o.drewN _,hd fun j hj=>?_⟩
     rcases Nat.lt_or_ge j k with h1|h1
     ·exact HN.o j h1
     ·have:j=k:=by omega
      rw[this,HX.o,HY.o]
    case measure=>simp[intOf];omega
   ·have hb:(x != y)=true:=by simpa using a1
    have HV:Hd (xs≠ys):=hd fun e=>by
     have:=HX.o;rw[e,HY.o] at this;exact a1 (Option.some.inj this).symm
    clear a1;go_wp2_with fail
    go_quiet (fail)
    go_wp2_with fail
    go_ret
    exact⟨Aa (by simpa using HV.o),HE.o.drewN _⟩
  ·clear hE;have HV:Hd (xs=ys):=hd (Ug a2.o a6.o (fun j hj=>HN.o j (by omega)));go_wp2_with fail
   go_ret
   exact⟨Aa (by simpa using HV.o),HE.o⟩
theorem Aex (A B:Option Addr)(ca cb:Nat)(xs ys:List Int)(w:World)(hA:RdI w A xs)(hB:RdI w B ys)(hl:xs.length<=9223372036854775807)(hl2:ys.length<=9223372036854775807) :
  Calls prog 44 #[.slice A xs.length ca,.slice B ys.length cb] w fun e w'=>e=.returned (.bool (decide (xs=ys)))/\Ext [] w w':=by
 by_cases a1:xs.length=ys.length
 ·have:=Abt A B ca cb ys.length xs ys w hA hB hl2 a1 rfl;rw[a1];exact this
 ·have hb:((xs.length:Int) != (ys.length:Int))=true:=by simp;omega
  have HV:Hd (xs≠ys):=hd fun e=>a1 (by rw[e])
  generalize xs.length=a at *;generalize ys.length=b at *;clear hA hB;go_enter func44,ntmps44
  go_wp2_with fail
  go_ret
  exact⟨Aa (by simpa using HV.o),jF _ _⟩
def hzI:SH:=⟨0,⟨#[]⟩,0,0,0,false,none,0,[],none,0,0,afZ,.mk exZ []⟩
theorem Ahr:Cd [] [.mk hzI []]=4:=by kernel_rfl
set_option maxRecDepth 100000 in
theorem On (w:World):Calls prog 17 #[] w (Fk true w):=by
 have a7:=hd Ahq;go_enter func17,ntmps17
 go_wp2_with fail
 refine(a7.o w).mono ?_
 rintro e w1 ⟨b,s,a,f,rfl,hE,hP,hA⟩;have aj:=hd hE;have a8:=hd hP;have aa:=hd hA;clear hE hP hA;unfold pgV pgI;dsimp only[bsI,List.length_cons,List.length_nil];go_wp2_with fail
 generalize hW:World.alloc (World.alloc w1 _) _=w2;have a6:Hd (Ext [] w1 w2):=hd (by rw[<-hW];exact((jF [] w1).alloc _).alloc _);have ab:Hd (Blk w2 w1.heap.size 3 #[(4:Int),(5:Int)]):=hd (by rw[<-hW];exact(jK w1 _ _).alloc _);have ac:Hd (Blk w2 (w1.heap.size+1) 22 #[.slice (some w1.heap.size) 2 2,.slice none 0 0]):=hd (by rw[<-hW];exact Blk.new' _ _ _ _ (by rw[Ag]));clear hW;have ad:=hd (Aev.mk (aa.o.ext a6.o (by simp)) ac.o ab.o);refine(Ahm bsI (some f) 1 (hfI s) (hsI b) a (w1.heap.size+1) w1.heap.size w2 rfl (a8.o.keep a6.o) (Ahn b s) (Ajc s) (Ajb b) ad.o).mono ?_
 rintro e w3 ⟨mb,wb,sb,cw,cs,b0,c0,b1,c1,rfl,hE,hM⟩;have ak:=hd ((aj.o.trans a6.o).trans hE);have ae:=hd hM;clear hE hM ab ac ad a8 aa;go_wp2_with fail
 refine(a7.o w3).mono ?_
 rintro e w4 ⟨b',s',a',f',rfl,hE,hP,hA⟩;have al:=hd (ak.o.trans hE);have am:=hd hP;have af:=hd (ae.o.ext hE (by simp));clear hE hP hA ae;have a1:=hd (Uf _ w4 am.o);unfold Ahi at a1;rw[Aho] at a1;go_wp2_with fail
 refine a1.o.mono ?_
 rintro e w5 ⟨hE,⟨h1,-⟩|⟨-,O,v,rfl,hK,-,⟨BB,-,hR⟩,-⟩⟩
 ·exact absurd rfl h1
 have hO:O.length=2:=by
  have h1:=congrArg List.length hK;rw[List.length_map] at h1;exact h1.trans (Ajd b' s')
 obtain⟨OA,oc,rfl,-,-⟩:=Bg hR;rw[hO] at hR⊢;have an:=hd (al.o.trans hE);have ag:=hd (af.o.ext hE (by simp));clear hE hK hR a1 hO af;have q1:=(ag.o.mem.row 1 _ rfl).1;simp only at q1;have ao:=jB w5 _ q1;simp only at ao;go_wp2_with fail
 generalize hW:World.alloc w5 _=w6;have ah:Hd (Ext [] w5 w6):=hd (by rw[<-hW];exact(jF [] w5).alloc _);have ap:Hd (Blk w6 w5.heap.size 3 #[(4:Int),(5:Int)]):=hd (by rw[<-hW];exact jK w5 _ _);clear hW
 have ai:Hd (∀(W:World) (x:Nat),Blk W x 3 #[(4:Int),(5:Int)]->RdI W (some ⟨x,0,none⟩) [4,5]):=hd fun W x h=>.inr ⟨x,0,rfl,fun i y hy=>by
  rw[Nat.zero_add,h.cell];have hi:=(ils hy).1;simp only[List.length_cons,List.length_nil] at hi;have:i=0\/i=1:=by omega
  rcases this with rfl|rfl<;>(cases hy;rfl)⟩
 refine(Aex (some b1) (some w5.heap.size) 2 2 [4,5] [4,5] w6 (ai.o _ _ (ag.o.w1.ext ah.o (by simp))) (ai.o _ _ ap.o) (by simp) (by simp)).mono ?_
 rintro e w7 ⟨rfl,hE⟩;have aq:=hd ((an.o.trans ah.o).trans hE);clear hE;rw[decide_eq_true (rfl:([4,5]:List Int)=[4,5])];go_wp2_with fail
 generalize hW:World.alloc w7 _=w8;have au:Hd (Ext [] w w8):=hd (by rw[<-hW];exact aq.o.alloc _);have aw:Hd (Blk w8 w7.heap.size 43 (Ai hzI 0 exZ 0)):=hd (by rw[<-hW];exact jK w7 _ _);clear hW
 have ax:=hd (show Lz w8 ⟨none,0,[],some w7.heap.size,1,[.mk hzI []]⟩ from⟨Fc ..,fun b hb=>by simp at hb,⟨by simp,by simp⟩,Qz fun j v hv=>by
  rw[aw.o.cell];simpa[stC,stH,stK,Ai,hzI,exZ,Ex.h,Ex.ks] using hv,fun s hs=>by
  rw[jA.1 hs];exact .mk _ _ (Fc ..) (fun a h=>by simp[hzI] at h) (Fc ..) (.mk _ _ (Fc ..) (Fc ..) (fun e h=>by simp at h)) (by simp[hzI,Al,Ap]) (by show(⟨#[]⟩:ByteArray).size<=1000000;decide) (Fc ..) (fun s h=>by simp at h)⟩)
 have a2:=hd (Ad1 _ w8 ax.o);unfold My at a2;dsimp only at a2;rw[Ahr] at a2;refine a2.o.mono ?_
 rintro e w9 ⟨rfl,hE⟩;have ay:=hd (au.o.trans hE);clear hE;go_wp2_with fail
 go_ret
 exact⟨rfl,ay.o⟩
end Go.Proofs.YtfppibmloloakaaGreatDoor
