import Derived.Test.YtfppibmloloakaaGreatDoorK40
namespace Go.Proofs.YtfppibmloloakaaGreatDoor
open Go.RowKit Go.Proofs.Tryz
set_option linter.all false
set_option maxHeartbeats 64000000
attribute [local irreducible] Bj Bb
structure BoS (d:Nat)(w:World)(base g pb n:Nat)(bA:Option Addr)(bc:Nat)(bs:List Bf)(V:Value)(l:List St)(u:Value)(ss:List St)(V':Value)(cnt':Int)(wx:World):Prop where
 ext:Ext (g :: pb :: V.ownBlock.toList) w wx
 bld:Bld wx base g pb n bA bc bs V' l cnt'
 row:∀q,V'.ownBlock=some q->V.ownBlock=some q\/w.heap.size<=q
 box:BoX d w u ss V' wx
 g0:g<w.heap.size
 p0:pb<w.heap.size
 bw:base<=w.heap.size
 hbf:∀q,(Value.slice bA bs.length bc).ownBlock=some q->q<w.heap.size
section
variable {d:Nat} {w wx wy:World} {base g pb n m bc:Nat} {bA:Option Addr} {bs:List Bf} {V:Value} {l:List St} {u:Value} {ss:List St} {V' V'':Value} {cnt' cnt2:Int}
theorem BoS.draw (h:BoS d w base g pb n bA bc bs V l u ss V' cnt' wx)(hE:Ext [g] wx wy)(hS:Stm wy base g m):BoS d w base g pb m bA bc bs V l u ss V' cnt' wy:=
 ⟨h.ext.trans (hE.mono fun x hx=>.inl (by rw[jA.1 hx];simp)),h.bld.draw hE hS,h.row,h.box.keep hE (fun q hq=>.inl (by rw[jA.1 hq];exact h.g0)),h.g0,h.p0,h.bw,h.hbf⟩
theorem BoS.grow (h:BoS d w base g pb n bA bc bs V l u ss V' cnt' wx)(hE:Ext [] wx wy):BoS d w base g pb n bA bc bs V l u ss V' cnt' wy:=
 ⟨h.ext.trans hE.nil,h.bld.grow hE,h.row,h.box.grow hE,h.g0,h.p0,h.bw,h.hbf⟩
theorem BoS.less (h:BoS d w base g pb n bA bc bs V l u ss V' cnt' wx)(hm:m<=n):BoS d w base g pb m bA bc bs V l u ss V' cnt' wx:=⟨h.ext,h.bld.less hm,h.row,h.box,h.g0,h.p0,h.bw,h.hbf⟩
theorem BoS.call (h:BoS d w base g pb n bA bc bs V l u ss V' cnt' wx)(hA:Zr wx base g pb m bA bc bs V' l V'' cnt2 wy):BoS d w base g pb m bA bc bs V l u ss V'' cnt2 wy:=by
 have hb:=(h.box.row hA.row).siz;refine⟨h.ext.step hA.ext fun x hx=>?_,hA.bld,fun q hq=>?_,?_,h.g0,h.p0,h.bw,h.hbf⟩
 ·rcases jE.1 hx with e|hx
  ·exact .inl (by rw[e];simp)
  ·rcases jE.1 hx with e|hx
   ·exact .inl (by rw[e];simp)
   ·exact(h.row x (jC.1 hx)).imp (fun e=>jI _ (jI _ (jC.2 e))) id
 ·rcases hA.row q hq with e|e
  ·exact h.row q e
  ·exact .inr (by omega)
 ·have h1:=h.box.keep hA.ext fun q hq=>by
   rcases jE.1 hq with e|hq
   ·exact .inl (by rw[e];exact h.g0)
   ·rcases jE.1 hq with e|hq
    ·exact .inl (by rw[e];exact h.p0)
    ·exact .inr (jC.1 hq)
  refine⟨h1.own,fun s hs=>?_,(h.box.row hA.row).sep,h1.siz⟩
  have h2:=StA.mono (Q:=fun b=>w.heap.size<=b/\u.ownBlock≠some b/\V'.ownBlock≠some b/\b<wx.heap.size) (fun b hb hh=>⟨hh.1,hh.2.1,hh.2.2,hb⟩) (jD _) (h.box.kid s hs)
  have h3:=StA.ext hA.ext (fun y hy hh=>by
   rcases jE.1 hy with e|hy
   ·have:=h.g0;have:=hh.1;omega
   ·rcases jE.1 hy with e|hy
    ·have:=h.p0;have:=hh.1;omega
    ·exact hh.2.2.1 (jC.1 hy)) h2
  exact StA.mono (fun b _ hh=>⟨hh.1,hh.2.1,fun e=>by
   rcases hA.row b e with e1|e1
   ·exact hh.2.2.1 e1
   ·have:=hh.2.2.2;omega⟩) (jD _) h3
theorem BoS.more (h:BoS d w base g pb n bA bc bs V l u ss V' cnt' wx)(hE:Ext u.ownBlock.toList wx wy){g8 c8:Nat}{s:St}(hO:wy.ownsRow w.heap.size 43 21 (.slice (some g8) (ss.length+1) c8) (ss.length+1) (ss.flatMap stC ++ stC s))(hg8:u.ownBlock=some g8\/wx.heap.size<=g8)
  (hs:StA (fun b=>w.heap.size<=b/\u.ownBlock≠some b/\V'.ownBlock≠some b) (20+d) wx s):BoS d w base g pb n bA bc bs V l (.slice (some g8) (ss.length+1) c8) (ss ++ [s]) V' cnt' wy:=by
 have hq:∀q∈u.ownBlock.toList,w.heap.size<=q:=fun q hq=>Ad h.box.own q (jC.1 hq)
 have g0:=h.g0;have p0:=h.p0;have bw:=h.bw;refine⟨h.ext.step hE fun x hx=>.inr (hq x hx),?_,h.row,h.box.more hE hO hg8 (fun q hq=>(h.bld.row.lt q hq).2) hs,h.g0,h.p0,h.bw,h.hbf⟩
 exact⟨h.bld.stm.ext hE (fun hm=>by have:=hq _ hm;omega) (fun q hqq=>by have:=hq _ hqq;omega),h.bld.blk.ext hE (fun hm=>by have:=hq _ hm;omega),h.bld.bpb,Ah h.bld.buf hE fun q hqq hm=>(by have:=h.hbf q hqq;have:=hq _ hm;omega),
  Ah h.bld.row hE fun q hqq hm=>(h.box.sep q (jC.1 hm) hqq),h.bld.bne,h.bld.b9,h.bld.bsz,h.bld.l3⟩
end
def Zt (H:Nat):Ba:=⟨Nat×Af,(0,Xf),fun u=>.slice (some u.1) 1 1,fun u w=>H<=u.1/\Blk w u.1 38 #[.int .i64 u.2.base,.slice u.2.A u.2.ts.length u.2.cap]/\AfA (fun b=>H<=b) 4 w u.2⟩
theorem Zt.stays {H g:Nat}(hg:g<H):∀y w w',Ext [g] w w'->(Zt H).V y w->(Zt H).V y w':=fun y w w' hE h=>⟨h.1,h.2.1.ext hE (by rw[jA];have:=h.1;omega),AfA.ext' hE (fun x hx=>by rw[jA.1 hx];omega) h.2.2⟩
theorem Xj:∃i,prog.info? 38=some i/\i.zero=some (.agg #[(0:Int),.slice none 0 0])/\i.size=2/\i.bytes=32:=info_parts (show((prog).info? 38).map (fun i=>(i.zero,i.size,i.bytes))=some (some (.agg #[(0:Int),.slice none 0 0]),2,32) by kernel_rfl)
theorem Xk (a:Af):∀u∈afC a,u.oneCell'=true:=by
 intro u hu;simp only[afC,jE,jH,or_false] at hu;rcases hu with rfl|rfl<;>rfl
theorem Nw (w:World)(s:St):(Instr.buildSlice 27 1 #[(0,.agg (stA s))]).run prog w=.ok (.slice (some w.heap.size) 1 1) (w.alloc (.cells (stA s) 43)):=by
 rw[<-Rb];exact Mx w s
def whHd:SH:=⟨2,⟨#[]⟩,0,0,0,false,none,0,[],none,0,0,afZ,.mk exZ []⟩
def whA (v b:Value):Array Value:=#[.int .i64 2,.string ⟨#[]⟩,.int .i64 0,.int .i64 0,.int .i64 0,.bool false,v,b,.int .i64 0,.int .i64 0,.slice none 0 0,.int .i64 0,.int .i64 0,.int .i64 0,.int .i64 0,.int .i64 0,.int .i64 0,.int .i64 0,.int .i64 0,.slice none 0 0,.slice none 0 0]
theorem Ae1:prog.built 43 [(0,.int .i64 2)]=some (whA (.slice none 0 0) (.slice none 0 0)):=by kernel_rfl
set_option maxRecDepth 100000 in
theorem Tn (d:Nat)(hd3:d<=3)(IH:∀e,e+1=d->Ajq e):Ajq d:=by
 intro base g pb n bc bA bs V l cnt many w hm hl h;have HD:=hd h;have cI:=hd IH;have HL:=hd hl;have HM:=hd hm;have aT:Hd (base<=w.heap.size):=hd (by have:=h.bpb;have:=h.blk.lt;omega);clear IH hl;obtain⟨R,hR,cq⟩:∃R,5*R=BD d/\2000000000<=R:=⟨2000000000*20 ^ d,by unfold BD;omega,by have:=Nat.one_le_pow d 20 (by omega);omega⟩;have HR:=hd (And.intro hR cq);have bn:Hd (BoS d w base g pb (n+5*R) bA bc bs V l (.slice none 0 0) [] V cnt w):=hd ⟨jF _ _,h.less (by omega),fun q hq=>.inl hq,⟨Cm _ _ _ _,by simp,fun q hq=>(by cases hq),jD _⟩,h.stm.lt,h.blk.lt,aT.o,fun q hq=>(h.buf.lt q hq).2⟩;clear h hR cq;have qp:=HD.o.blk.cell;have a7:=HD.o.blk.lt;unfold Db at qp;go_enter func104,ntmps104
 go_wp2_with fail
 refine(Ce base g (n+4*R) 1 many _ (bn.o.bld.stm.less (by have:=HR.o.2;omega)) (by omega) (by omega)).mono ?_
 rintro e w1 ⟨r0,rfl,hr,hE,hS⟩;obtain⟨m,rfl⟩:∃k:Nat,r0=k:=⟨r0.toNat,by omega⟩;have cJ:Hd (m<=3):=hd (by have:=HM.o;omega);have cK:=hd (bn.o.draw hE hS);clear hE hS hr qp a7 bn hm
 obtain⟨F,cr,ct,cu⟩:∃F:Nat->Nat,F 0=n+3*R/\(∀k,k<3->F k=F (k+1)+R)/\∀k,n<=F k:=⟨fun k=>n+(3-k)*R,by simp only[Nat.sub_zero],fun k hk=>by
  have e:3-k=(3-(k+1))+1:=by omega
  simp only[e,Nat.succ_mul];omega,fun k=>by simp only;omega⟩
 have cL:=hd cr;have cM:=hd ct;have cN:=hd cu;clear cr ct cu;go_wp2_with fail
 go_loopw [7,17] (fun u0 i wr=>∃(k:Nat) (u:Value) (ss:List St) (V':Value) (cnt':Int),u=u0/\i=.int .i64 k/\k<=m/\Hd (ss.length<=2*k)/\Hd (BoS d w base g pb (F k) bA bc bs V l u ss V' cnt' wr)) (fun _ i _=>(m-intOf i).toNat)
 case atStart=>exact⟨0,_,[],V,cnt,rfl,rfl,jQ _,hd (jD _),hd (cK.o.less (by rw[cL.o];omega))⟩
 case round=>
  obtain⟨k,u,ss,V',cnt',rfl,rfl,hk,ad,af⟩:=hrel;have dM:=cJ.o;by_cases dJ:k<m
  ·have cO:(k:Int)<m:=by omega
   have cP:=hd dJ;have cQ:k<3:=by omega
   have b7:Hd (ss.length<=4):=hd (by have:=ad.o;omega);have cR:=hd (cM.o k cQ);go_upto_block 1 with fail
   go_cut [7] (fun u2 wx=>∃(bm:List St) (V2:Value) (a2:Int),Hd (bm.length<=2*(k+1))/\Hd (BoS d w base g pb (F (k+1)) bA bc bs V l u2 bm V2 a2 wx))
   case first=>
    have qp:=af.o.bld.blk.cell;have a7:=af.o.bld.blk.lt;unfold Db at qp;go_upto_region 14 with(go_at_call 9;refine(Cb base g (F (k+1)+R-1) 6 _ (af.o.bld.stm.less (by rw[cR.o];have:=HR.o.2;omega)) (by omega)).mono ?_;rintro e w2 ⟨kk,rfl,dF,hE,hS⟩)
    have a1:=hd (af.o.draw hE hS);clear hE hS dF qp a7 af;go_cut [92] (fun s wx=>s=.bool (decide (kk<2\/d=0))/\wx=w2)
    case first=>
     go_wp2_with fail
     all_goals
      go_meet
      refine⟨congrArg Value.bool ?_,rfl⟩
      first|exact decide_eq_decide.2 (by omega)|exact(decide_eq_true (by omega)).symm|(rw[Bool.eq_iff_iff];simp only[Bool.or_eq_true,decide_eq_true_eq,beq_iff_eq];omega)|(simp_all;done)|(simp_all;omega)
    case rest=>
     obtain⟨rfl,rfl⟩:=hcut;rename World=>w2
     by_cases hq:kk<2\/d=0
     ·skip
      rw[decide_eq_true hq];have cS:100*KD 2=1000000000:=by decide
      go_wp2_with fail
      refine(Tm base g pb (F (k+1)) bc bA bs V' l cnt' w2 (a1.o.bld.less (by rw[cS];have:=HR.o.2;omega))).mono ?_
      rintro e w3 ⟨s,rfl,hs,hE,hS⟩;have aL:=hd (a1.o.draw hE hS);have aA:Hd (StA (fun b=>w.heap.size<=b/\u.ownBlock≠some b/\V'.ownBlock≠some b) (20+d) w3 s):=hd (StA.mono (fun b _ hb=>⟨nt a1.o.box.siz hb,fun e=>by have:=(a1.o.box.own.lt b e).2;omega,fun e=>by have:=(a1.o.bld.row.lt b e).2;omega⟩) (by omega) hs);clear hE hS hs;obtain⟨i0,an,ao,ap,aq⟩:=Jb;have aw:=hd (jK w3 43 (stA s));have a8:=hd (aL.o.grow ((jF [] w3).alloc (.cells (stA s) 43)));have a6:=hd (StA.ext ((jF [] w3).alloc (.cells (stA s) 43)) (by simp) aA.o);have ae:Hd (ss.length<=10):=hd (by have:=b7.o;omega)
      go_wp2_with (first
       | (
         refine Br rfl (.slice (some w3.heap.size) 1 1) (w3.alloc (.cells (stA s) 43)) ?rr ?_
         case rr=>
          refine As rfl _ w3 _ _ (stV s) ?_ ?_
          ·rfl
          ·exact Mx w3 s)
       | (
         refine wpList_append_lies _ rfl _ _ 27 rfl w.heap.size 43 i0 _ 21 256 underlying27 an ao ap aq rfl (by decide) u ss.length (ss.flatMap stC) rfl a8.o.box.own ⟨w3.heap.size,0,none⟩ 1 1 (stC s) rfl (Cr s) ?c1 (La s) (by omega) ?c3 ?c4 a8.o.box.siz _ rfl ?_
         case c1=>intro j v hj;rw[Addr.add_mk,Nat.zero_add,aw.o.cell,<-Array.getElem?_toList,<-Hh];exact hj
         case c3=>have:=ae.o;unfold maxLen;omega
         case c4=>have:=ae.o;omega
         intro g8 c8 w8 ho8 hg8 hi8 ha8;have ag:Hd (Ext u.ownBlock.toList (w3.alloc (.cells (stA s) 43)) w8):=hd ((jF _ _).grown hg8 fun q hq=>.inl (jC.2 hq));have ah:=hd (a8.o.more ag.o ho8 (hi8.imp id fun e=>Nat.le_of_eq e.symm) a6.o);clear ho8 hg8 hi8 ha8))
      go_meet
      exact⟨ss ++ [s],V',cnt',hd (by rw[jG];have:=ad.o;simp;omega),ah⟩
     ·skip
      rw[decide_eq_false hq];obtain⟨d',bl⟩:∃d',d'+1=d:=⟨d-1,by omega⟩;have aB:=hd bl;have HI:=hd (cI.o d' bl);have dN:(d:Int)-1=(d':Int):=by omega
      have bQ:Hd (R=4*BD d'/\10000000000<=BD d'):=hd ⟨by have:=HR.o.1;rw[<-bl,Ajp] at this;omega,Akt d'⟩;clear bl;by_cases dK:kk=2
      ·subst dK;have bR:=hd (show(whA (.slice none 0 0) (.slice none 0 0)).all (·.oneCell')=true from Cz whHd 0 exZ 0);have bS:=hd (show(prog.info? 43).map (·.size)=some (whA (.slice none 0 0) (.slice none 0 0)).size from Dv);have bT:=hd (show zSt.size=(whA (.slice none 0 0) (.slice none 0 0)).size from rfl);have bU:=hd Ae1;have aL:=hd (jK w2 43 (whA (.slice none 0 0) (.slice none 0 0)));have b8:Ext [] w2 (w2.alloc (.cells (whA (.slice none 0 0) (.slice none 0 0)) 43)):=(jF _ _).alloc _;have bV:(w2.alloc (.cells (whA (.slice none 0 0) (.slice none 0 0)) 43)).heap.size=w2.heap.size+1:=Ag _ _;have cT:=hd (a1.o.grow b8);have ba:Hd (∀q,u.ownBlock=some q->q<w2.heap.size):=hd fun q hq=>(a1.o.box.own.lt q hq).2
       have aC:Hd (∀q,V'.ownBlock=some q->q<w2.heap.size):=hd fun q hq=>(a1.o.bld.row.lt q hq).2
       have aD:Hd (w.heap.size<=w2.heap.size):=hd a1.o.box.siz;have aM:Hd (LoF w2 [g] (w2.heap.size+1) base g pb (F (k+1)+R-1) bA bc bs V' l cnt' w2.heap.size (fun v=>whA v (.slice none 0 0)) (.slice none 0 0) [] (w2.alloc (.cells (whA (.slice none 0 0) (.slice none 0 0)) 43))):=hd ⟨b8.nil,a1.o.bld.grow b8,aL.o,Cm _ _ _ _,by simp,fun q hq=>⟨by have:=aC.o q hq;omega,by have:=aC.o q hq;omega⟩,fun q hq=>by have:=a1.o.hbf q hq;have:=aD.o;omega,by simp,jD _,by omega,a1.o.bld.stm.lt,a1.o.bld.blk.lt,Nat.le_of_eq bV.symm⟩;clear b8 bV aL;generalize whA (.slice none 0 0) (.slice none 0 0)=wa at *
       go_upto_region 18 with(first
        | (refine Gn rfl 43 _ rfl wa ?cc ?_;case cc=>refine Eq.trans (congrArg (prog.built 43) (?_:_=[(0,Value.int .i64 2)])) bU.o;simp[Act.eval])
        | refine Ax rfl rfl 43 _ _ rfl rfl zSt (Ge _) wa rfl rfl bS.o bT.o bR.o ?_)
       generalize World.alloc w2 _=w3 at *;have dO:g<w2.heap.size:=a1.o.bld.stm.lt;have bo:pb<w2.heap.size:=a1.o.bld.blk.lt;generalize bP:w2.heap.size=eb at *;have aN:=hd bP;clear bR bS bT bU cT;have qp:=aM.o.bld.blk.cell;have a7:=aM.o.bld.blk.lt;unfold Db at qp;have bp:=hd (jK w3 3 (Cj [1,1,2]));have bq:Ext [] w3 (w3.alloc (.cells (Cj [1,1,2]) 3)):=(jF _ _).alloc _;have bb:=hd (aM.o.draw bq.nil (aM.o.bld.stm.ext bq (by simp) (by simp)));have dP:=aM.o.bld.stm.lt;clear bq;simp only[Cj,List.map_cons,List.map_nil] at bp bb;go_wp2_with fail
       refine(Cc base g (F (k+1)+R-10) w3.heap.size 3 3 [1,1,2] _ (bb.o.bld.stm.less (by have:=HR.o.2;omega)) bp.o (by omega) (by decide)).mono ?_
       rintro e w5 ⟨r,rfl,hr,hE,hS⟩;have cU:=hd (bb.o.draw hE hS);obtain⟨c,rfl⟩:∃k:Nat,r=k:=⟨r.toNat,by simp at hr;omega⟩;have dQ:c<=2:=by simp at hr;omega
       clear hE hS hr qp a7 bp bb aM;go_wp2_with fail
       go_loopw [114] (fun i wr=>∃(j:Nat) (v:Value) (cs:List Af),i=.int .i64 j/\j<=c/\Hd (cs.length=j)/\Hd (LoF w2 [g] (eb+1) base g pb (F (k+1)+R-1000+200*(2-j)) bA bc bs V' l cnt' eb (fun v=>whA v (.slice none 0 0)) v cs wr)) (fun i _=>(c-intOf i).toNat)
       case atStart=>exact⟨0,_,[],rfl,jQ _,hd rfl,hd (cU.o.less (by have:=HR.o.2;omega))⟩
       case round=>
        obtain⟨j,v,cs,rfl,hj,bL,HO⟩:=hrel;by_cases dL:j<c
        ·have cV:(j:Int)<c:=by omega
         have bW:=hd dL;go_wp2_with fail
         generalize hH:wr.heap.size=H4 at *;have bX:Hd (g<H4):=hd (by rw[<-hH];exact HO.o.bld.stm.lt);have cW:Hd (eb+1<=H4):=hd (by rw[<-hH];exact HO.o.hH);have cX:Hd (∀q,v.ownBlock=some q->q<H4):=hd fun q hq=>by rw[<-hH];exact(HO.o.own.lt q hq).2
         refine rgC 5 20 base g (F (k+1)+R-1000+200*(2-(j+1))) [(3,sAf H4),(4,Zt H4)] (Am.cons (sAf.stays bX.o) (Am.cons (Zt.stays bX.o) Am.nil)) (HO.o.bld.stm.less (by omega)) ?_
         simp only[TK]
         repeat(refine dE (fun wr nr hJ=>by(have hB:=HO.o.draw hJ.1 hJ.2;have qe:=hB.blk.cell;have aE:=hB.blk.lt;unfold whA at qe;clear hB);clear hJ;exact CL) ?_;simp only[PT])
         refine Bz (sAf H4) rfl rfl ?_ ?_
         ·refine EC fun wr m' hE hS hm hf=>?_
          refine(Mg base g pb m' bc _ bs V' l cnt' 3 wr ((HO.o.bld.draw hE hS).less (by omega)) (by omega)).mono ?_
          rintro e w' ⟨a,rfl,ha,dG,dH⟩;exact⟨a,rfl,Ao.mono ha (fun b _ hb=>by have:=hE.size;omega) (jD _),dG,dH⟩
         intro (a:Af);simp only[PT];dsimp only[sAf,afV];refine Ew (Zt H4) rfl rfl ?_ ?_
         ·intro wq hE hf;have hv:(sAf H4).V a wq:=Cw hf 3 (by kernel_rfl);have h1:Ext [] wq (wq.alloc (.cells #[.int .i64 a.base,.slice a.A a.ts.length a.cap] 38)):=(jF _ _).alloc _;refine⟨(wq.heap.size,a),.cells #[.int .i64 a.base,.slice a.A a.ts.length a.cap] 38,?_,by have:=hE.size;show H4<=wq.heap.size;omega,jK _ _ _,AfA.ext' h1 (by simp) hv⟩
          clear hv hf hE h1;go_simp;try first|rfl|exact⟨rfl,rfl⟩
         rintro⟨kb,y⟩;simp only[PT];dsimp only[Zt];refine Aj (fun wy hJ hF=>?_)
         have hv:(Zt H4).V (kb,y) wy:=hF 4;have HV:=hd hv;have aU:=hd ((HO.o.draw hJ.1 hJ.2).less (m:=F (k+1)+R-1000+200*(2-(j+1))) (by omega));have cY:Hd (AfA (fun b=>eb+1<=b/\v.ownBlock≠some b) 20 wy y):=hd (AfA.mono' (fun b _ hb=>⟨nt cW.o hb,fun e=>by have:=cX.o b e;omega⟩) (by omega) hv.2.2);clear hJ hF hv;obtain⟨i0,an,ao,ap,aq⟩:=Xj;have dR:cs.length<2:=by rw[bL.o];omega
         go_wp2_with (
          refine wpList_append_lies _ rfl _ _ 35 rfl (eb+1) 38 i0 _ 2 32 underlying35 an ao ap aq rfl (by decide) v cs.length (cs.flatMap afC) rfl aU.o.own ⟨kb,0,none⟩ 1 1 (afC y) rfl rfl ?c1 (Xk y) (by omega) ?c3 ?c4 aU.o.hH _ rfl ?_
          case c1=>intro j u hj;rw[Addr.add_mk,Nat.zero_add,HV.o.2.1.cell,<-Array.getElem?_toList];exact hj
          case c3=>unfold maxLen;omega
          case c4=>omega
          intro g8 c8 w8 ho8 hg8 hi8 ha8;have ag:Hd (Ext v.ownBlock.toList wy w8):=hd ((jF _ wy).grown hg8 fun q hq=>.inl (jC.2 hq));have cZ:=hd (aU.o.more ag.o (k:=6) (fun a b=>rfl) ho8 (hi8.imp id fun e=>Nat.le_of_eq e.symm) cY.o);have bd:=aU.o.blk.ext ag.o fun hm=>by have:=Ad aU.o.own _ (jC.1 hm);omega
          have qe:=bd.cell;have aO:=bd.frozen;have aE:=bd.lt;unfold whA at qe;clear ho8 hg8 hi8 ha8 bd)
         go_roundw
         case rel=>exact⟨j+1,_,cs ++ [y],by go_num,by have:=bW.o;omega,hd (by rw[jG,bL.o];rfl),cZ⟩
         case measure=>simp[intOf];have:=bW.o;omega
        ·skip
         obtain⟨CA,cc,rfl,-,-⟩:=Bg HO.o.own;obtain⟨-,cv,cw⟩:=HO.o.conds (by rw[bL.o];omega) rfl;have d0:=hd cv;have d1:=hd cw;clear cv cw;go_wp2_with fail
         refine(HI.o base g pb (F (k+1)) bc bA bs V' l cnt' 2 wr (by omega) (by have:=HL.o;have:=aB.o;omega) (HO.o.bld.less (by have:=bQ.o;omega))).mono ?_
         rintro e w5 ⟨A,c5,az,V2,a2,rfl,cC,cD,au⟩;have dS:eb<wr.heap.size:=HO.o.blk.lt;have aP:=aC.o
         have aF:∀x∈g :: pb :: V'.ownBlock.toList,x<eb:=fun x hx=>by
          rcases jE.1 hx with e|hx
          ·omega
          ·rcases jE.1 hx with e|hx
           ·omega
           ·exact aP x (jC.1 hx)
         have d2:=hd aF;have aV:=hd (HO.o.blk.ext au.ext fun hm=>by have:=aF _ hm;omega)
         have d3:Hd (∀q,V2.ownBlock=some q->q≠eb):=hd fun q hq=>by
          rcases au.row q hq with e|e
          ·have:=aP q e;omega
          ·omega
         have d4:w.heap.size<=eb:=aD.o;have d5:Hd (Ext (g :: pb :: V'.ownBlock.toList) w2 w5):=hd ((HO.o.ext.mono fun x hx=>.inl (by rw[jA.1 hx];simp)).trans au.ext);have aQ:=hd (jL (b:=eb) (i:=7) (u:=.slice A az.length c5) (.inl (by simp)) (jF [eb] w5));have d6:=hd (aV.o.set_' 7 (.slice A az.length c5) (whA (.slice CA cs.length cc) (.slice A az.length c5)) rfl);have d7:=hd (au.bld.one aQ.o aV.o d3.o (by have:=aT.o;omega));have br:=hd (Zr.mk (w:=w2) (V:=V') (V':=V2) (d5.o.step aQ.o fun x hx=>.inr (by rw[jA.1 hx];omega)) d7.o (fun q hq=>(au.row q hq).imp id fun e=>by have:=HO.o.ext.size;omega));have be:=hd (a1.o.call br.o)
         have aA:Hd (StA (fun b=>w.heap.size<=b/\u.ownBlock≠some b/\V2.ownBlock≠some b) (20+d) (w5.setCell ⟨eb,7,none⟩ (.slice A az.length c5)) (.mk ⟨2,⟨#[]⟩,0,0,0,false,CA,cc,cs,A,c5,0,afZ,.mk exZ []⟩ az)):=hd (by
          have bY:∀b,b<wr.heap.size->eb+1<=b->eb+1<=b/\V2.ownBlock≠some b:=fun b hb h1=>⟨h1,fun e=>by
           rcases au.row b e with e1|e1
           ·have:=aP b e1;omega
           ·omega⟩
          have bZ:∀x∈g :: pb :: V'.ownBlock.toList,¬(eb+1<=x/\V2.ownBlock≠some x):=fun x hx hh=>by have:=d2.o x hx;omega
          have c0:∀x∈[eb],¬(eb+1<=x/\V2.ownBlock≠some x):=fun x hx hh=>by rw[jA.1 hx] at hh;omega
          have c2:∀x∈[eb],¬Fr wr.heap.size V2 x:=fun x hx hh=>by rw[jA.1 hx] at hh;have:=hh.1;omega
          have c6:∀b,eb+1<=b/\V2.ownBlock≠some b->w.heap.size<=b/\u.ownBlock≠some b/\V2.ownBlock≠some b:=fun b hb=>⟨by omega,fun e=>by have:=ba.o b e;omega,hb.2⟩
          have bo:∀b,Fr wr.heap.size V2 b->w.heap.size<=b/\u.ownBlock≠some b/\V2.ownBlock≠some b:=fun b hb=>⟨by have:=hb.1;omega,fun e=>by have:=ba.o b e;have:=hb.1;omega,hb.2⟩
          refine .mk _ _ ?_ (fun a ha=>?_) (Ao.nil ..) (.mk _ _ (Ao.nil ..) (Ao.nil ..) (fun e h=>by cases h)) (by show Al (.mk exZ [])<=20+d;simp[Al,Ap];omega) (nt (show(⟨#[]⟩:ByteArray).size<=20 by decide) (by omega)) (by omega) ?_ (fun s hs=>?_)
          ·exact Ao.mono (Ao.ext (Ao.ext (Ao.mono d0.o bY (jD _)) au.ext bZ) aQ.o c0) (fun b _ hb=>c6 b hb) (by omega)
          ·exact Ao.mono (Ao.ext (Ao.ext (Ao.mono (d1.o a ha) bY (jD _)) au.ext bZ) aQ.o c0) (fun b _ hb=>c6 b hb) (by omega)
          ·exact Ao.mono (Ao.ext cC aQ.o c2) (fun b _ hb=>bo b hb) (by omega)
          ·exact StA.mono (fun b _ hb=>bo b hb) (by have:=aB.o;omega) (StA.ext aQ.o c2 (cD s hs)))
         clear cC cD au aF aP;have qe:=aV.o.cell;have aO:=aV.o.frozen;have aE:=aV.o.lt;unfold whA at qe;go_upto_region 23 with fail
         generalize World.setCell w5 _ _=w6 at *;clear qe aO aE;have dT:=hd (Rb (.mk ⟨2,⟨#[]⟩,0,0,0,false,CA,cc,cs,A,c5,0,afZ,.mk exZ []⟩ az));have bt:Hd (Blk w6 eb 43 (stA (.mk ⟨2,⟨#[]⟩,0,0,0,false,CA,cc,cs,A,c5,0,afZ,.mk exZ []⟩ az))):=hd d6.o;generalize St.mk ⟨2,⟨#[]⟩,0,0,0,false,CA,cc,cs,A,c5,0,afZ,.mk exZ []⟩ az=sx at *;have d8:=hd (Mk sx);obtain⟨i0,an,ao,ap,aq⟩:=Jb;have aw:=hd (jK w6 43 (stA sx));have a8:=hd (be.o.grow ((jF [] w6).alloc (.cells (stA sx) 43)));have a6:=hd (StA.ext ((jF [] w6).alloc (.cells (stA sx) 43)) (by simp) aA.o);have ae:Hd (ss.length<=10):=hd (by have:=b7.o;omega)
         go_wp2_with (first
          | refine Ac rfl 43 _ rfl eb 0 rfl (stA sx) bt.o.wide _ underlying43 rfl d8.o ?_
          | (
            refine Br rfl (.slice (some w6.heap.size) 1 1) (w6.alloc (.cells (stA sx) 43)) ?rr ?_
            case rr=>
             refine As rfl _ w6 _ _ (.agg (stA sx)) ?_ ?_
             ·rfl
             ·exact Nw w6 sx)
          | (
            refine wpList_append_lies _ rfl _ _ 27 rfl w.heap.size 43 i0 _ 21 256 underlying27 an ao ap aq rfl (by decide) u ss.length (ss.flatMap stC) rfl a8.o.box.own ⟨w6.heap.size,0,none⟩ 1 1 (stC sx) rfl (Cr sx) ?c1 (La sx) (by omega) ?c3 ?c4 a8.o.box.siz _ rfl ?_
            case c1=>intro j v hj;rw[Addr.add_mk,Nat.zero_add,aw.o.cell,<-Array.getElem?_toList,<-Hh];exact hj
            case c3=>have:=ae.o;unfold maxLen;omega
            case c4=>have:=ae.o;omega
            intro g8 c8 w8 ho8 hg8 hi8 ha8;have ag:Hd (Ext u.ownBlock.toList (w6.alloc (.cells (stA sx) 43)) w8):=hd ((jF _ _).grown hg8 fun q hq=>.inl (jC.2 hq));have ah:=hd (a8.o.more ag.o ho8 (hi8.imp id fun e=>Nat.le_of_eq e.symm) a6.o);clear ho8 hg8 hi8 ha8))
         go_meet
         exact⟨ss ++ [sx],V2,a2,hd (by rw[jG];have:=ad.o;simp;omega),ah⟩
      ·skip
       have bu:=hd (Ae0 d' HI.o base g pb (F (k+1)+BD d'+100) bc bA bs V' l cnt' w2 (by have:=HL.o;have:=aB.o;omega) (a1.o.bld.less (by have:=bQ.o;omega)));rw[aB.o] at bu;go_wp2_with fail
       refine bu.o.mono ?_
       rintro e w3 ⟨s,V2,a2,rfl,hs,hA⟩;have aL:=hd (a1.o.call hA);have aA:Hd (StA (fun b=>w.heap.size<=b/\u.ownBlock≠some b/\V2.ownBlock≠some b) (20+d) w3 s):=hd (StA.mono (fun b _ hb=>⟨nt a1.o.box.siz hb.1,fun e=>by have:=(a1.o.box.own.lt b e).2;have:=hb.1;omega,hb.2⟩) (jD _) hs);clear hs hA bu a1;obtain⟨i0,an,ao,ap,aq⟩:=Jb;have aw:=hd (jK w3 43 (stA s));have a8:=hd (aL.o.grow ((jF [] w3).alloc (.cells (stA s) 43)));have a6:=hd (StA.ext ((jF [] w3).alloc (.cells (stA s) 43)) (by simp) aA.o);have ae:Hd (ss.length<=10):=hd (by have:=b7.o;omega)
       go_upto_region 6 with(first
        | (
          refine Br rfl (.slice (some w3.heap.size) 1 1) (w3.alloc (.cells (stA s) 43)) ?rr ?_
          case rr=>
           refine As rfl _ w3 _ _ (stV s) ?_ ?_
           ·rfl
           ·exact Mx w3 s)
        | (
          refine wpList_append_lies _ rfl _ _ 27 rfl w.heap.size 43 i0 _ 21 256 underlying27 an ao ap aq rfl (by decide) u ss.length (ss.flatMap stC) rfl a8.o.box.own ⟨w3.heap.size,0,none⟩ 1 1 (stC s) rfl (Cr s) ?c1 (La s) (by omega) ?c3 ?c4 a8.o.box.siz _ rfl ?_
          case c1=>intro j v hj;rw[Addr.add_mk,Nat.zero_add,aw.o.cell,<-Array.getElem?_toList,<-Hh];exact hj
          case c3=>have:=ae.o;unfold maxLen;omega
          case c4=>have:=ae.o;omega
          intro g8 c8 w8 ho8 hg8 hi8 ha8;have ag:Hd (Ext u.ownBlock.toList (w3.alloc (.cells (stA s) 43)) w8):=hd ((jF _ _).grown hg8 fun q hq=>.inl (jC.2 hq));have ah:=hd (a8.o.more ag.o ho8 (hi8.imp id fun e=>Nat.le_of_eq e.symm) a6.o);clear ho8 hg8 hi8 ha8))
       have qp:=ah.o.bld.blk.cell;have a7:=ah.o.bld.blk.lt;unfold Db at qp;go_upto_if 34 with(go_at_call 13;refine(Gf base g (F (k+1)+BD d'+50) 5 _ (ah.o.bld.stm.less (by omega)) (by omega)).mono ?_;rintro e w9 ⟨fl,rfl,hE,hS⟩)
       have aa:=hd (ah.o.draw hE hS);clear hE hS qp a7 ah a8 a6 aw ag;cases fl
       ·go_wp2_with fail
        go_meet
        exact⟨ss ++ [s],V2,a2,hd (by rw[jG];have:=ad.o;simp;omega),hd (aa.o.less (by omega))⟩
       ·skip
        obtain⟨VA,vc,rfl,-,-⟩:=Bg aa.o.bld.row
        have aW:Hd (∀(j:Nat) (v:Value),(stA s).toList[j]? = some v->w9.cell? ⟨g8,ss.length*21+j,none⟩=some v):=hd fun j v hv=>by
         have d9:(ss ++ [s])[ss.length]? = some s:=by simp
         have hO:=aa.o.box.own;have hj:=(ils hv).1;refine Dg hO rfl ?_
         rw[Dk Cr d9 (by rw[<-Hh,Cr] at hj;exact hj),Hh];exact hv
        have da:=hd (aa.o.box.kid s (by simp));have db:g8<w9.heap.size:=(aa.o.box.own.lt g8 rfl).2;have dc:(ss.length:Int)<(ss.length:Int)+1:=by omega
        have dd:ss.length<=4:=b7.o;have c7:=hd (Mk s);have de:=hd (Rc s);have df:=hd (show zSt.size=(stA s).size from rfl);have ax:=hd (jK w9 43 (stA s));have aG:Ext [] w9 (w9.alloc (.cells (stA s) 43)):=(jF _ _).alloc _;have ai:=hd (aa.o.bld.grow aG);have aX:Hd (Ext (g :: pb :: (Value.slice VA l.length vc).ownBlock.toList) w9 (w9.alloc (.cells (stA s) 43))):=hd aG.nil;clear aG
        go_upto_region 8 with(first
         | refine Ac rfl 43 _ rfl g8 (ss.length*21) rfl (stA s) aW.o _ underlying43 rfl c7.o ?_
         | refine Ax rfl rfl 43 _ _ rfl rfl zSt (Ge _) (stA s) rfl rfl c7.o df.o de.o ?_)
        have dU:g<w9.heap.size:=aa.o.bld.stm.lt;have dV:pb<w9.heap.size:=aa.o.bld.blk.lt;have ba:Hd (∀b,(Value.slice (some g8) (ss.length+1) c8).ownBlock=some b->b<w9.heap.size):=hd fun b hb=>(aa.o.box.own.lt b hb).2
        have aC:Hd (∀q,(Value.slice VA l.length vc).ownBlock=some q->q<w9.heap.size):=hd fun q hq=>(aa.o.bld.row.lt q hq).2
        have aD:Hd (w.heap.size<=w9.heap.size):=hd aa.o.box.siz;have dg:=ax.o.lt;generalize World.alloc w9 _=w10 at *;generalize bP:w9.heap.size=eb at *;have aN:=hd bP;have qp:=ai.o.blk.cell;have aR:=ai.o.blk.frozen;have a7:=ai.o.blk.lt;unfold Db at qp;have q1:=ax.o.cell 1;have q5:=ax.o.cell 5;have aO:=ax.o.frozen;have aE:=ax.o.lt;rw[show(stA s)[1]? = some (.string s.h.var) from rfl] at q1;rw[show(stA s)[5]? = some (.bool s.h.vec) from rfl] at q5;go_upto_region 9 with fail
        generalize cG:Utf8.encode _=nm;have dh:Hd (nm.size<=20):=hd (by rw[<-cG];exact nt (encode_size_le _) (by omega));clear cG;have aH:=hd ((jL (b:=eb) (i:=1) (u:=.string nm) (.inl (by simp)) (jF [eb] w10)).trans (jL (b:=eb) (i:=5) (u:=.bool false) (.inl (by simp)) (jF [eb] _)));have aY:=hd ((ax.o.set_' 1 (.string nm) (stA (.mk {s.h with var:=nm } s.body)) rfl).set_' 5 (.bool false) (stA (.mk {s.h with var:=nm,vec:=false } s.body)) rfl);have aj:=hd (ai.o.one aH.o ax.o (fun q hq=>by have:=aC.o q hq;omega) (by have:=aT.o;have:=aD.o;omega));have aZ:=hd (aX.o.step aH.o fun x hx=>.inr (by rw[jA.1 hx];exact Nat.le_of_eq aN.o));generalize World.setCell (World.setCell w10 _ _) _ _=w11 at *;clear qp aR a7 q1 q5 aO aE ai aX ax aH;have di:Hd (StA (fun b=>w.heap.size<=b/\b≠g8/\(Value.slice VA l.length vc).ownBlock≠some b/\b<eb) (20+d) w9 s):=hd (StA.mono (fun b hb hh=>⟨hh.1,fun e=>hh.2.1 (by rw[e];rfl),hh.2.2,by omega⟩) (jD _) da.o);generalize bk:St.mk {s.h with var:=nm,vec:=false } s.body=sc at *;have bv:=hd bk;have qp:=aj.o.blk.cell;have aR:=aj.o.blk.frozen;have a7:=aj.o.blk.lt;unfold Db at qp;have ac:=hd (aj.o.cnt' (wrap64 (a2+1)));have aI:=hd (jL (b:=pb) (i:=4) (u:=.int .i64 (wrap64 (a2+1))) (.inl (by simp)) (jF [pb] w11));go_upto_region 10 with fail
        generalize World.setCell w11 _ _=w12 at *;have ab:=hd (aY.o.ext aI.o (by rw[jA];omega));have al:=hd (aZ.o.trans (aI.o.mono fun x hx=>.inl (by rw[jA.1 hx];simp)));clear qp aR a7 aj aY aZ aI bk;generalize wrap64 (a2+1)=cnt3 at *;have ca:=hd ac.o.vpb;have dj:Hd (w.heap.size<=w12.heap.size):=hd (by have:=al.o.size;have:=aD.o;omega);have b0:Hd (w9.heap.size<=w12.heap.size):=hd al.o.size;have bx:Hd (l.length<=2):=hd (by have:=HL.o;have:=aB.o;omega);have cb:=hd (Mk sc);have dk:=hd (Rc sc);have bz:=hd (Hh sc);have bB:=hd (Ahx sc)
        have aJ:Hd (eb∉pb :: (Value.slice VA l.length vc).ownBlock.toList):=hd (by
         intro hm;rcases jE.1 hm with e|e
         ·omega
         ·have:=aC.o eb (jC.1 e);omega)
        have ce:=ab.o.lt;refine rgP base pb g bs.length bc bA VA vc l cnt3 rfl (fun i hi oi ho=>by rcases hi with rfl|rfl|rfl<;>(cases ho;rfl)) ac.o.row ac.o.blk ?_
        simp only[TK];have cf:pb<w12.heap.size:=ac.o.blk.lt
        repeat(refine dEU (fun wr nr hg hJ=>by(clear hg);clear hJ;exact CL) ?_;simp only[PT])
        refine dEU (fun wr nr hg hJ=>by(have hB:=hJ.blk (hg.later 12 (by kernel_rfl));have qp:=hB.cell;have a7:=hB.lt;unfold Db at qp;clear hB hg);clear hJ;exact CL) ?_
        simp only[PT];refine Il rfl rfl ⟨.agg (stA sc),fun wr nr hg hJ=>?_,?_⟩
        ·exact Dx 43 _ rfl eb 0 rfl (stA sc) (ab.o.ext hJ.ext aJ.o).wide _ underlying43 rfl cb.o
        simp only[PT]
        repeat(refine dEU (fun wr nr hg hJ=>by(clear hg);clear hJ;exact CL) ?_;simp only[PT])
        refine Bv (Cx (.slice (some w12.heap.size) 1 1)) rfl rfl (fun wr nr hg hJ hf=>?_) ?_
        ·obtain⟨h1,h2,h3⟩:=hJ.make hg.mine;refine⟨(),_,?_,trivial,h2,h3⟩
         rw[<-h1];refine As rfl _ wr _ _ (.agg zSt) ?_ ?_
         ·rfl
         ·exact Vw wr
        rintro⟨⟩;simp only[PT];dsimp only[Cx];refine Bv (sV7 base (.slice VA l.length vc) l w12.heap.size) rfl rfl (fun wr nr hg hJ hf=>?_) ?_
        ·obtain⟨ay,aK,w',h1,h2,h3,h4⟩:=hJ.app 27 hg.mine (hg.done 6 (by kernel_rfl)) (hg.later 12 (by kernel_rfl)) bx.o (by have:=aT.o;have:=dj.o;have:=b0.o;omega) ca.o cf;refine⟨(ay,aK),w',?_,h2,h3,h4⟩
         refine Qg rfl _ wr w' _ _ _ ?_ ?_ h1
         ·rfl
         ·rfl
        rintro⟨ay,aK⟩;simp only[PT];dsimp only[sV7];have dW:(l.length:Int)<(l.length:Int)+1:=by omega
        repeat(refine dEU (fun wr nr hg hJ=>by(clear hg);clear hJ;exact CL) ?_;simp only[PT])
        refine Dq sUn rfl rfl (fun _=>rfl) (fun wr nr hg hJ hf=>?_) ?_
        ·have hv:(sV7 base (.slice VA l.length vc) l w12.heap.size).V (ay,aK) wr:=Cw hf 7 (by kernel_rfl);obtain⟨C,h1,h2,h3,h4⟩:=hJ.lay (hg.done 7 (by kernel_rfl)) (hg.done 6 (by kernel_rfl)) hv sc ca.o cf (jD _);refine⟨(),_,?_,trivial,h3,h4⟩
         rw[bz.o];refine Er rfl _ wr ay (l.length*21) (stA sc) C 43 ?_ ?_ h1 (by rw[bB.o];exact h2) cb.o dk.o
         ·rfl
         ·rfl
        rintro⟨⟩;simp only[PT];dsimp only[sUn]
        repeat(refine dEU (fun wr nr hg hJ=>by(clear hg);clear hJ;exact CL) ?_;simp only[PT])
        refine Dq (Ab3 base (.slice VA l.length vc) l w12.heap.size pb g bA bs.length bc cnt3) rfl rfl (fun _=>rfl) (fun wr nr hg hJ hf=>?_) ?_
        ·have hv:(sV7 base (.slice VA l.length vc) l w12.heap.size).V (ay,aK) wr:=Cw hf 7 (by kernel_rfl);have cg:=hg.mine;obtain⟨h1,h2,h3,h4⟩:=hJ.ptr (hg.done 7 (by kernel_rfl)) (hg.done 6 (by kernel_rfl)) cg hv (.slice (some ay) (l.length+1) aK) (Ahv g bA bs.length bc l.length cnt3 (ay,aK)) rfl;refine⟨(ay,aK),_,?_,⟨h1,h2⟩,h3,h4⟩
         have hB:=hJ.blk cg;have qp:=hB.cell;have aR:=hB.frozen;have a7:=hB.lt;unfold Db at qp;clear hB hv h1 h2 h3 h4 hJ hf hg;go_simp
        rintro⟨g9,c9⟩;simp only[PT];dsimp only[Ab3];refine Ci (fun wz r13 hr hJ hF=>?_)
        have hz:(Ab3 base (.slice VA l.length vc) l w12.heap.size pb g bA bs.length bc cnt3).V (g9,c9) wz:=hF 12;have bf:=hd hJ.ext;obtain⟨s9,cx⟩:=ac.o.push bx.o bf.o hz.1 hz.2;have ch:=hd cx;have bC:=hd hz.2.1;dsimp only at ch bC;clear hJ hF hr hz cx;have bD:=hd (al.o.trans (bf.o.mono fun x hx=>.inl (jI _ hx)));have be:=hd (ab.o.ext bf.o aJ.o)
        have dl:Hd (∀q,(Value.slice (some g9) (l.length+1) c9).ownBlock=some q->((Value.slice VA l.length vc).ownBlock=some q\/w9.heap.size<=q)/\q≠eb):=hd fun q hq=>by
         have dm:q=g9:=by cases hq;rfl
         rcases bC.o with e|e
         ·exact⟨.inl (by rw[dm];exact e),by have:=aC.o g9 e;omega⟩
         ·exact⟨.inr (by have:=b0.o;omega),by omega⟩
        clear al ab bf ac aJ bC;go_wp2_with fail
        refine(HI.o base g pb (F (k+1)) bc bA bs _ (l ++ [s9]) cnt3 2 wz (by omega) (by have:=HL.o;have:=aB.o;simp;omega) (ch.o.less (by omega))).mono ?_
        rintro e wb ⟨A,cB,aS,V3,bO,rfl,cE,cF,b6⟩;have dX:eb<wz.heap.size:=be.o.lt;have bh:=dl.o
        have ci:∀x∈g :: pb :: (Value.slice (some g9) (l.length+1) c9).ownBlock.toList,x≠eb:=fun x hx=>by
         rcases jE.1 hx with e|hx
         ·omega
         ·rcases jE.1 hx with e|hx
          ·omega
          ·exact(bh x (jC.1 hx)).2
        have b1:=hd (be.o.ext b6.ext fun hm=>ci _ hm rfl)
        have cj:Hd (Ext (g :: pb :: (Value.slice VA l.length vc).ownBlock.toList) w9 wb):=hd (bD.o.step b6.ext fun x hx=>by
         rcases jE.1 hx with e|hx
         ·exact .inl (by rw[e];simp)
         ·rcases jE.1 hx with e|hx
          ·exact .inl (by rw[e];simp)
          ·exact(bh x (jC.1 hx)).1.imp (fun e=>jI _ (jI _ (jC.2 e))) id)
        have bE:Hd (∀q,V3.ownBlock=some q->((Value.slice VA l.length vc).ownBlock=some q\/w9.heap.size<=q)/\q≠eb):=hd fun q hq=>by
         rcases b6.row q hq with e|e
         ·exact bh q e
         ·exact⟨.inr (by have:=bD.o.size;omega),by omega⟩
        have dn:=hd cE;have HSB':=hd cF;have ck:=hd b6.bld;clear cE cF b6 ci bh;have q7:=b1.o.cell 7;rw[show(stA sc)[7]? = some (.slice sc.h.A sc.body.length sc.h.cap) from rfl] at q7;have aO:=b1.o.frozen;have aE:=b1.o.lt;have am:=hd (jL (b:=eb) (i:=7) (u:=.slice A aS.length cB) (.inl (by simp)) (jF [eb] wb));have bF:=hd (b1.o.set_' 7 (.slice A aS.length cB) (stA (.mk {sc.h with A:=A,cap:=cB } aS)) rfl);have b2:=hd (ck.o.one am.o b1.o (fun q hq=>(bE.o q hq).2) (by have:=aT.o;have:=aD.o;omega));have bG:=hd (cj.o.step am.o fun x hx=>.inr (by rw[jA.1 hx];exact Nat.le_of_eq aN.o));go_upto_region 12 with fail
        generalize World.setCell wb _ _=w13 at *;clear q7 aO aE ck cj;obtain⟨e4,ak,cy,bM,cz⟩:=Bg b2.o.row;obtain⟨q,hq,-,e5⟩:=cz (by simp);subst hq;have cl:(l ++ [s9]).length=l.length+1:=by simp
        rw[cl] at cy bM;subst cy;have dY:l.length<=ak:=by omega
        have dp:(l.length:Int)<=(ak:Int):=by omega
        have cm:=b2;have dq:=hd (bE.o q rfl);clear cz cl;have dZ:l.length<=2:=bx.o;refine Cu 12 (JE _) (Ext []) (Bi []) (by kernel_rfl) (by kernel_rfl) JE.less Am.nil JE.start ?_
        simp only[TK]
        repeat(refine dE (fun wr nr hJ=>by(have hB:=cm.o.blk.ext hJ (by simp);have qp:=hB.cell;have a7:=hB.lt;unfold Db at qp;clear hB);clear hJ;exact CL) ?_;simp only[PT])
        refine Aj (fun wp hJ hF=>?_)
        have b3:=hd hJ;clear hJ hF;have bi:=hd (cm.o.grow b3.o);have dr:=hd (bF.o.ext b3.o (by simp));have qp:=bi.o.blk.cell;have aR:=bi.o.blk.frozen;have a7:=bi.o.blk.lt;unfold Db at qp;have ds:=hd bi.o.pop;have bj:=hd (jL (b:=pb) (i:=3) (u:=.slice (some q) l.length ak) (.inl (by simp)) (jF [pb] wp));go_upto_region 13 with fail
        generalize World.setCell wp _ _=wo at *;clear qp aR a7;have dt:=hd (dr.o.ext bj.o (by rw[jA];omega));have b4:=hd ((bG.o.trans b3.o.nil).trans (bj.o.mono fun x hx=>.inl (by rw[jA.1 hx];simp)));have br:=hd (Zr.mk (w:=w9) (V:=.slice VA l.length vc) (V':=.slice (some q) l.length ak) b4.o ds.o (fun k hk=>(bE.o k hk).1));have bH:=hd (aa.o.call br.o)
        have du:Hd (StA (fun b=>w.heap.size<=b/\(Value.slice (some g8) (ss.length+1) c8).ownBlock≠some b/\(Value.slice (some q) l.length ak).ownBlock≠some b) (20+d) wo (.mk {sc.h with A:=A,cap:=cB } aS)):=hd (by
         have bk:=bv.o;subst bk;obtain⟨dz,dA,dB,aP,dC,e6,-,-⟩:=(show StA _ (20+d) w9 (.mk s.h s.body) from by cases s;exact di.o).all;have e0:=aa.o.g0;have e2:=aa.o.p0
         have hX:∀x∈g :: pb :: (Value.slice VA l.length vc).ownBlock.toList,¬(w.heap.size<=x/\x≠g8/\(Value.slice VA l.length vc).ownBlock≠some x/\x<eb):=fun x hx hh=>by
          rcases jE.1 hx with e|hx
          ·omega
          ·rcases jE.1 hx with e|hx
           ·omega
           ·exact hh.2.2.1 (jC.1 hx)
         have hP:∀b,(w.heap.size<=b/\b≠g8/\(Value.slice VA l.length vc).ownBlock≠some b/\b<eb)->w.heap.size<=b/\(Value.slice (some g8) (ss.length+1) c8).ownBlock≠some b/\(Value.slice (some q) l.length ak).ownBlock≠some b:=fun b hb=>⟨hb.1,fun e=>hb.2.1 (by cases e;rfl),fun e=>by
          have dv:q=b:=by cases e;rfl
          subst dv;rcases dq.o.1 with e1|e1
          ·exact hb.2.2.1 e1
          ·have:=hb.2.2.2;have:=aN.o;omega⟩
         have cn:∀x∈[eb],¬Fr wz.heap.size (.slice (some q) (l.length+1) ak) x:=fun x hx hh=>by rw[jA.1 hx] at hh;have:=hh.1;omega
         have co:∀x∈[pb],¬Fr wz.heap.size (.slice (some q) (l.length+1) ak) x:=fun x hx hh=>by rw[jA.1 hx] at hh;have:=hh.1;omega
         have hZ:w9.heap.size<=wz.heap.size:=bD.o.size;have cp:∀b,Fr wz.heap.size (.slice (some q) (l.length+1) ak) b->w.heap.size<=b/\(Value.slice (some g8) (ss.length+1) c8).ownBlock≠some b/\(Value.slice (some q) l.length ak).ownBlock≠some b:=fun b hb=>⟨by have:=hb.1;have:=aD.o;have:=aN.o;omega,fun e=>by have:=ba.o b e;have:=hb.1;have:=aN.o;omega,fun e=>hb.2 (by cases e;rfl)⟩
         refine .mk _ _ ?_ (fun a ha=>?_) ?_ ?_ dC (nt dh.o (by omega)) (by omega) ?_ (fun z hz=>?_)
         ·exact Ao.mono (Ao.ext dz b4.o hX) (fun b _ hb=>hP b hb) (jD _)
         ·exact Ao.mono (Ao.ext (dA a ha) b4.o hX) (fun b _ hb=>hP b hb) (jD _)
         ·exact Ao.mono (Ao.ext dB b4.o hX) (fun b _ hb=>hP b hb) (jD _)
         ·exact ExA.mono (fun b _ hb=>hP b hb) (jD _) (ExA.ext b4.o hX aP)
         ·exact Ao.mono (Ao.ext (Ao.ext (Ao.ext dn.o am.o cn) b3.o (by simp)) bj.o co) (fun b _ hb=>cp b hb) (by omega)
         ·exact StA.mono (fun b _ hb=>cp b hb) (by have:=aB.o;omega) (StA.ext bj.o co (StA.ext b3.o (by simp) (StA.ext am.o cn (HSB'.o z hz)))))
        have dw:=hd (Mk (.mk {sc.h with A:=A,cap:=cB } aS));generalize St.mk {sc.h with A:=A,cap:=cB } aS=sf at *;have aA:=du;have b5:(ss ++ [s]).length<=5:=by simp;omega
        have bI:(ss ++ [s]).length=ss.length+1:=by simp
        generalize dI:Value.slice (some g8) (ss.length+1) c8=u3 at *;generalize cH:ss ++ [s]=ss3 at *;have dx:Hd (ss3.length=ss.length+1):=hd (by rw[<-cH];simp);have bJ:=hd b5;clear dI cH bI b5 ae;obtain⟨i0,an,ao,ap,aq⟩:=Jb;have aw:=hd (jK wo 43 (stA sf));have a8:=hd (bH.o.grow ((jF [] wo).alloc (.cells (stA sf) 43)));have a6:=hd (StA.ext ((jF [] wo).alloc (.cells (stA sf) 43)) (by simp) aA.o);have ae:Hd (ss3.length<=10):=hd (by have:=bJ.o;omega)
        go_wp2_with (first
         | refine Ac rfl 43 _ rfl eb 0 rfl (stA sf) dt.o.wide _ underlying43 rfl dw.o ?_
         | (
           refine Br rfl (.slice (some wo.heap.size) 1 1) (wo.alloc (.cells (stA sf) 43)) ?rr ?_
           case rr=>
            refine As rfl _ wo _ _ (.agg (stA sf)) ?_ ?_
            ·rfl
            ·exact Nw wo sf)
         | (
           refine wpList_append_lies _ rfl _ _ 27 rfl w.heap.size 43 i0 _ 21 256 underlying27 an ao ap aq rfl (by decide) u3 ss3.length (ss3.flatMap stC) rfl a8.o.box.own ⟨wo.heap.size,0,none⟩ 1 1 (stC sf) rfl (Cr sf) ?c1 (La sf) (by omega) ?c3 ?c4 a8.o.box.siz _ rfl ?_
           case c1=>intro j v hj;rw[Addr.add_mk,Nat.zero_add,aw.o.cell,<-Array.getElem?_toList,<-Hh];exact hj
           case c3=>have:=ae.o;unfold maxLen;omega
           case c4=>have:=ae.o;omega
           intro g8 c8 w8 ho8 hg8 hi8 ha8;have ag:Hd (Ext u3.ownBlock.toList (wo.alloc (.cells (stA sf) 43)) w8):=hd ((jF _ _).grown hg8 fun q hq=>.inl (jC.2 hq));have ah:=hd (a8.o.more ag.o ho8 (hi8.imp id fun e=>Nat.le_of_eq e.symm) a6.o);clear ho8 hg8 hi8 ha8))
        go_meet
        exact⟨ss3 ++ [sf],_,bO,hd (by rw[jG,dx.o];have:=ad.o;simp;omega),ah⟩
   case rest=>
    obtain⟨bm,V2,a2,bN,dD⟩:=hcut;have e3:=cP.o;go_wp2_with fail
    go_roundw
    case rel=>exact⟨k+1,_,bm,V2,a2,rfl,by go_num,by omega,bN,dD⟩
    case measure=>simp[intOf];omega
  ·go_wp2_with fail
   obtain⟨A,c,rfl,-,-⟩:=Bg af.o.box.own;have bK:ss.length<=20:=by have:=ad.o;omega
   have dy:=hd (Ao.own (P:=fun b=>w.heap.size<=b/\V'.ownBlock≠some b) (N:=20) Cr af.o.box.own bK (by decide) (fun q hq h1 _=>⟨h1,af.o.box.sep q (by rw[hq];rfl)⟩)).2;go_ret
   exact⟨A,c,ss,V',cnt',rfl,dy.o,fun s hs=>StA.mono (fun b _ hb=>⟨hb.1,hb.2.2⟩) (jD _) (af.o.box.kid s hs),af.o.ext,af.o.bld.less (cN.o _),af.o.row⟩
end Go.Proofs.YtfppibmloloakaaGreatDoor
