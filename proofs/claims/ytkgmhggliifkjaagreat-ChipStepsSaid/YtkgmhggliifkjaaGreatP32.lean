import Derived.Test.YtkgmhggliifkjaaGreatP31
import Derived.Test.YtkgmhggliifkjaaGreatP27
namespace Go.Proofs.YtkgmhggliifkjaaGreat
open Go.RowKit Go.Proofs.Tryz
set_option linter.all false
set_option maxHeartbeats 8000000
set_option maxRecDepth 100000
section
attribute [local irreducible] Ax Fk
def Ar.cellsR (a:Ar):List Value:=[.int .i64 a.bank,.int .i64 a.lo,.int .i64 (a.lo+a.size)]
def Ij (l:List Ar):List Value:=l.flatMap Ar.cellsR
theorem Ma (l:List Ar):(Ij l).length=l.length*3:=by
 induction l with
 | nil=>rfl
 | cons a l ih=>simp only[Ij,List.flatMap_cons,List.length_append,List.length_cons] at *;rw[ih];simp[Ar.cellsR];omega
theorem Adv (l:List Ar)(a:Ar):Ij (l ++ [a])=Ij l ++ a.cellsR:=by simp[Ij]
theorem Xv (l:List Ar)(k:Nat)(a:Ar)(h:l[k]? = some a):(Ij l)[k*3]? = some (.int .i64 a.bank)/\(Ij l)[k*3+1]? = some (.int .i64 a.lo)/\(Ij l)[k*3+2]? = some (.int .i64 (a.lo+a.size)):=by
 induction l generalizing k with
 | nil=>simp at h
 | cons b l ih=>
  have e:Ij (b :: l)=b.cellsR ++ Ij l:=rfl;rw[e];cases k with
  | zero=>cases h;exact⟨rfl,rfl,rfl⟩
  | succ k=>
   obtain⟨h1,h2,h3⟩:=ih k h;have hl:b.cellsR.length=3:=rfl;refine⟨?_,?_,?_⟩
   ·rw[List.getElem?_append_right (by omega),show(k+1)*3-b.cellsR.length=k*3 by omega];exact h1
   ·rw[List.getElem?_append_right (by omega),show(k+1)*3+1-b.cellsR.length=k*3+1 by omega];exact h2
   ·rw[List.getElem?_append_right (by omega),show(k+1)*3+2-b.cellsR.length=k*3+2 by omega];exact h3
theorem RdB.own {w:World}{base n:Nat}{v:Value}{l:List Ar}(h:w.ownsRow base 136 3 v n (Ij l))(hl:l.length=n)(hn:0<n):∃A cap,v=.slice A n cap/\RdB w A l/\Src A n cap/\TyA w A:=by
 obtain⟨h0,h1⟩:=h;rcases h1 with⟨rfl,rfl⟩|⟨g,cap,cur,rfl,_,hg,hnc,_,_,ht⟩
 ·omega
 ·refine⟨some g,cap,rfl,.inr ⟨g,0,rfl,fun k a ha=>?_⟩,.inr ⟨hn,hnc,g,rfl⟩,TyA.one hg⟩
  have hk:k<n:=by rw[<-hl];exact(ils ha).1
  have hc:∀j v,j<n*3->(Ij l)[j]? = some v->w.cell? ⟨g,j,none⟩=some v:=fun j v hj hv=>by
   rw[<-ht,List.getElem?_take,ijp hj] at hv;rw[(show Blk w g 136 cur from hg).cell];simpa using hv
  obtain⟨a1,a2,a3⟩:=Xv l k a ha;exact⟨by rw[Nat.zero_add];exact hc _ _ (by omega) a1,by rw[Nat.zero_add];exact hc _ _ (by omega) a2,by rw[Nat.zero_add];exact hc _ _ (by omega) a3⟩
theorem Xw {w:World}{R:RA}{m:Mc}{xs:List Ins}{S:MS}(xk xd xc xp xn xm:Int)(a b:Nat)(h:Kb w R m xs S a b xn xm)(hxm:0<=xm/\xm<=4096) :
  Calls prog 50 #[.pointer (some R.A.c),.agg #[(14:Int),xk,xd,a,b,xc,xp,xn,xm]] w (Ka m S ⟨14,xk,xd,a,b,xc,xp,xn,xm⟩ w):=by
 have HH:=hd h;have ha:=h.a;have hb:=h.b;have hn:=h.n;have hmm:=h.mm;have hmc:=Bc h.ref.kd.ok;have haZ:((a:Nat):Int)<16:=by omega
 have hbZ:((b:Nat):Int)<16:=by omega
 have HX:=hd (Blk.new w 76 #[(14:Int),xk,xd,a,b,xc,xp,xn,xm]);have HE0:=hd ((Ext.refl [] w).alloc (.cells #[(14:Int),xk,xd,a,b,xc,xp,xn,xm] 76));obtain⟨L,hL⟩:∃L:Nat,m.lanes=L:=⟨m.lanes.toNat,by omega⟩;have hL8:L<=8:=by omega
 have HLL:=hd hL;obtain⟨hxm0,hxm1⟩:=hxm;have hr:=h.wf.r (a:Nat);unfold isW at hn hmm hr;obtain⟨hn0,hn1⟩:=hn;obtain⟨hr0,hr1⟩:=hr;obtain⟨i0,hi0,hz0,hz1,hz2⟩:=info_parts (show((prog).info? 136).map (fun i=>(i.zero,i.size,i.bytes))=some (some (.agg #[(0:Int),(0:Int),(0:Int)]),3,24) by kernel_rfl);obtain⟨R6,hR6⟩:∃R6,R6=S.r (a:Nat)+xn:=⟨_,rfl⟩;have HR6:=hd hR6;have hR60 : -4294967296<=R6:=by omega
 have hR61:R6<=4294967296:=by omega
 have HAR:=hd (fun W (hW:Ext [] w W)=>Ie (h.ref.nil hW) h.wf 14 xk xd b xc xp xn xm a ha ⟨hn0,hn1⟩ xc L (by omega));rw[<-hR6] at HAR;clear hR6 hL hn0 hn1 hr0 hr1 hmm;have q3:=(HH.o.ref.nil HE0.o).cell (i:=3) (by omega) (v:=m.lanes) rfl;have ql:=(HH.o.ref.nil HE0.o).lt;rw[HLL.o] at q3;clear h;go_enter func50,ntmps50
 go_wp2_with fail
 clear q3 ql;generalize w.alloc (.cells #[(14:Int),xk,xd,a,b,xc,xp,xn,xm] 76)=w1 at *;have hww:=HE0.o.size;go_loopw [4,67] (fun v i wr=>∃(k:Nat) (u:Value),i=.int .i64 k/\u=v/\k<=L/\Hd (Ext [] w1 wr)/\Hd (wr.ownsRow w1.heap.size 136 3 u k (Ij (Kh xc R6 xm L k)))) (fun _ i _=>(L-intOf i).toNat)
 case atStart=>exact⟨0,_,rfl,rfl,by omega,hd er,hd ⟨rfl,.inl ⟨rfl,rfl⟩⟩⟩
 case round=>
  obtain⟨k,u,rfl,rfl,hk,HE4,HO4⟩:=hrel;rename World=>wq
  by_cases hlt:k<L
  ·have hkx0:0<=(k:Int)*xm:=Int.mul_nonneg (by omega) hxm0;have hkx1:(k:Int)*xm<=8*4096:=Int.mul_le_mul (by omega) hxm1 hxm0 (by omega);obtain⟨P,hP⟩:∃P,P=(k:Int)*xm:=⟨_,rfl⟩;have hw1:IntKind.i64.wrap ((k:Int)*xm)=P:=by rw[hP];exact IntWalk.i64_in _ (by omega)
   have hw0:wrap64 ((k:Int)*xm)=P:=by rw[hP];unfold wrap64;omega
   rw[<-hP] at hkx0 hkx1;have HP:=hd hP;clear hP;have HE5:=hd (HE0.o.trans HE4.o);have qx:=HX.o.ext HE4.o (by simp);have qxc:=qx.cell;have qxl:=qx.lt;clear qx;go_wp2_with fail
   refine(HAR.o _ HE5.o).mono ?_
   rintro e w5 ⟨rfl,hE6⟩;have HE6:=hd (HE4.o.trans hE6);have HO6:=hd (An HO4.o hE6 (by simp));have hww6:=HE6.o.size;clear hE6 qxc qxl;have qx:=HX.o.ext HE6.o (by simp);have qxc:=qx.cell;have qxl:=qx.lt;clear qx
   go_wp2_with (
    refine wpList_append_lies _ rfl _ _ 95 rfl w1.heap.size 136 i0 _ 3 24 underlying95 hi0 hz0 hz1 hz2 rfl (by decide) _ k _ rfl ((HO6.o.alloc _).alloc _) ⟨w5.heap.size+1,0,none⟩ 1 1 [.int .i64 xc,.int .i64 (R6+P),.int .i64 (R6+L+P)] rfl rfl ?c1 ?c2 (by decide) ?c3 ?c4 ?c5 _ rfl ?_
    case c1=>exact World.news_of_block (Blk.new' (w5.alloc _) 136 #[xc,(R6+P),(R6+L+P)] (w5.heap.size+1) (by simp))
    case c2=>intro y hy;simp at hy;rcases hy with rfl|rfl|rfl<;>rfl
    case c3=>unfold maxLen;omega
    case c4=>omega
    case c5=>simp;omega
    intro g2 cap2 w8 ho8 hg8 ha8 hlt8;have HO8:Hd (w8.ownsRow w1.heap.size 136 3 (.slice (some g2) (k+1) cap2) (k+1) (Ij (Kh xc R6 xm L (k+1)))):=hd (by rw[Rd,Adv,<-HP.o,show(Ar.mk xc (R6+P) L).cellsR=[.int .i64 xc,.int .i64 (R6+P),.int .i64 (R6+L+P)] from by unfold Ar.cellsR;rw[show R6+P+(L:Int)=R6+L+P by omega]];exact ho8);have HE8:Hd (Ext [] w1 w8):=hd (((HE6.o.alloc _).alloc _).grown hg8 (fun q hq=>.inr (Bf HO6.o q hq)));clear ho8 hg8 ha8 hlt8)
   go_roundw
   case rel=>exact⟨k+1,_,by go_num,rfl,by omega,HE8,HO8⟩
   case measure=>simp[intOf];omega
  ·have hkL:k=L:=by omega
   subst hkL
   have er:Ae m S ⟨14,xk,xd,a,b,xc,xp,xn,xm⟩=Kh xc R6 xm k k:=by
    have e1:m.lanes.toNat=k:=by rw[HLL.o];exact Int.toNat_natCast k
    simp only[Ae,Kh,HR6.o,e1,HLL.o];simp
   have ew:Ab m S ⟨14,xk,xd,a,b,xc,xp,xn,xm⟩=[]:=by simp[Ab]
   obtain⟨Ar,cr,rfl,hrd,hge,hty⟩:=RdB.own HO4.o (Ip _ _ _ _ _) (by have:=HLL.o;omega);have HRD:=hd hrd;have HER:=hd er;have HEW:=hd ew;have HGE:=hd hge;have HTY:=hd hty;clear hrd er ew hge hty;go_wp2_with fail
   go_ret2
   exact⟨Ar,k,cr,none,0,0,rfl,by rw[HER.o,Ip],by rw[HEW.o];rfl,HE0.o.trans HE4.o,by rw[HER.o];exact HRD.o,.inl HEW.o,HGE.o,Src.nil,HTY.o,TyA.nil⟩
def T18R (w:World)(X:Array Value)(a0 a1 a2 c0 c1 c2:Int)(s9 s10:Value)(wx:World):Prop:=
 ∃b8 b9:Nat,s9=.pointer (some b8)/\s10=.pointer (some b9)/\Blk wx b8 136 #[a0,a1,a2]/\Blk wx b9 136 #[c0,c1,c2]/\Ext [] w wx/\Blk wx w.heap.size 76 X
def sZA (H:Nat):Bo:=⟨Nat,0,fun b=>.pointer (some ⟨b,0,none⟩),fun b w=>Blk w b 136 #[(0:Int),(0:Int),(0:Int)]/\H<=b⟩
def sBn (x y z:Int):Bo:=⟨Nat,0,fun b=>.slice (some ⟨b,0,none⟩) 1 1,fun b w=>Blk w b 136 #[x,y,z]⟩
theorem sBn.stays {x y z:Int}:∀u w w',RH [] w w'->(sBn x y z).V u w->(sBn x y z).V u w':=fun _ _ _ hR h=>Blk.ext h hR.1 List.not_mem_nil
theorem Xx {w:World}{R:RA}{m:Mc}{xs:List Ins}{S:MS}(xk xd xc xp xn xm:Int)(a b:Nat)(h:Kb w R m xs S a b xn xm)(hk:xk=1\/xk=2)(hxm:1<=xm/\xm<=4096) :
  Calls prog 50 #[.pointer (some R.A.c),.agg #[(18:Int),xk,xd,a,b,xc,xp,xn,xm]] w (Ka m S ⟨18,xk,xd,a,b,xc,xp,xn,xm⟩ w):=by
 have HH:=hd h;have ha:=h.a;have hb:=h.b;have hn:=h.n;have hmm:=h.mm;have hmc:=Bc h.ref.kd.ok;have haZ:((a:Nat):Int)<16:=by omega
 have hbZ:((b:Nat):Int)<16:=by omega
 have HX:=hd (Blk.new w 76 #[(18:Int),xk,xd,a,b,xc,xp,xn,xm]);have HE0:=hd ((Ext.refl [] w).alloc (.cells #[(18:Int),xk,xd,a,b,xc,xp,xn,xm] 76));have hr:=h.wf.r (a:Nat);have hrb:=h.wf.r (b:Nat);unfold isW at hrb;obtain⟨hrb0,hrb1⟩:=hrb;have HAR:=hd (fun W (hW:Ext [] w W)=>Ie (h.ref.nil hW) h.wf 18 xk xd b xc xp xn xm a ha hn (-1) xm (by omega));obtain⟨ra,hra⟩:∃v,v=S.r (a:Nat)+xn:=⟨_,rfl⟩;obtain⟨rb,hrbe⟩:∃v,v=S.r (b:Nat):=⟨_,rfl⟩;rw[<-hra] at HAR;rw[<-hrbe] at hrb0 hrb1;have HRA:=hd hra;have HRB:=hd hrbe;have qrb:=(h.ref.nil HE0.o).reg hb;rw[<-hrbe] at qrb;have hxc:=HX.o.cell;have x0:=hxc 0;have x1:=hxc 1;have x2:=hxc 2;have x3:=hxc 3;have x4:=hxc 4;have x5:=hxc 5;have x6:=hxc 6;have x7:=hxc 7;have x8:=hxc 8;simp only[List.getElem?_toArray,List.getElem?_cons_zero,List.getElem?_cons_succ] at x0 x1 x2 x3 x4 x5 x6 x7 x8;have hqx:=HX.o.lt;clear hra hrbe hr hn hmm hxc;have q3:=(HH.o.ref.nil HE0.o).cell (i:=3) (by omega) (v:=m.lanes) rfl;have ql:=(HH.o.ref.nil HE0.o).lt;clear h;go_enter func50,ntmps50
 go_wp2_with fail
 go_upto_region 25 with fail
 go_cut [9,10] (fun s9 s10 wx=>T18R w #[(18:Int),xk,xd,a,b,xc,xp,xn,xm] (-1) ra (ra+xm) xc rb (rb+xm) s9 s10 wx)
 case first=>
  generalize w.alloc (.cells #[(18:Int),xk,xd,a,b,xc,xp,xn,xm] 76)=w1 at *;refine Jg 28 [4,25,26] [27] [25,26] (fun _ w=>Ext [] w1 w) (fun w=>Ext [] w1 w) (Ext []) (Bw [(4,Bv (.agg #[.int .i64 (-1),ra,(ra+xm)])),(25,sZA w1.heap.size),(26,sZA w1.heap.size)]) (by kernel_rfl) (by kernel_rfl) (by kernel_rfl) ?_ (by kernel_rfl) (fun _ _ _ _ _ h=>h) (fun _ _ h=>h) ?_ (er.drew) ?_ (fun _ _ h=>h.size) ?_
  ·intro i s hs;have hm:=Fe hs;simp only[List.mem_cons,Prod.mk.injEq,List.not_mem_nil,or_false] at hm⊢;rcases hm with⟨h,_⟩|⟨h,_⟩|⟨h,_⟩<;>simp[h]
  ·intro i s hs;have hm:=Fe hs;simp only[List.mem_cons,Prod.mk.injEq,List.not_mem_nil,or_false] at hm;rcases hm with⟨rfl,rfl⟩|⟨rfl,rfl⟩|⟨rfl,rfl⟩
   ·exact fun _ _ _ _ h=>h
   ·exact fun _ _ _ hR h=>⟨h.1.ext hR List.not_mem_nil,h.2⟩
   ·exact fun _ _ _ hR h=>⟨h.1.ext hR List.not_mem_nil,h.2⟩
  ·intro i s hs N;have hm:=Fe hs;simp only[List.mem_cons,Prod.mk.injEq,List.not_mem_nil,or_false] at hm;rcases hm with⟨rfl,rfl⟩|⟨rfl,rfl⟩|⟨rfl,rfl⟩
   ·exact⟨(),fun b hb=>by cases hb⟩
   ·exact⟨N,fun b hb=>by cases hb;exact Nat.le_refl _⟩
   ·exact⟨N,fun b hb=>by cases hb;exact Nat.le_refl _⟩
  simp only[TK];have HQB:=hd qrb;clear qrb x0 x1 x2 x3 x4 x5 x6 x7 x8 hqx q3 ql
  repeat(refine dET (fun wr hJ=>by(have hC:=HH.o.ref.nil (HE0.o.trans hJ);have ql:=hC.lt;have q:=hJ.held HQB.o (by simp);have qx:=HX.o.ext hJ (by simp);have qxc:=qx.cell;have qxl:=qx.lt;clear qx hC);clear hJ;exact CL) ?_;simp only[PT])
  refine Pr (Bv (.agg #[.int .i64 (-1),ra,(ra+xm)])) rfl rfl rfl ?_ ?_
  ·apply Exists.intro
   apply Exists.intro
   refine⟨fun wr=>?_,fun wr nr hg hJ _=>?_⟩
   ·go_simp
    first|exact⟨rfl,rfl⟩|rfl
   ·refine(HAR.o _ (HE0.o.trans hJ)).mono ?_
    rintro e w' ⟨rfl,hE⟩;exact⟨(),rfl,trivial,hJ.trans hE,hE,fun b hb=>by cases hb⟩
  intro (u4:Unit) _;simp only[PT];dsimp only[Bv]
  repeat(refine dET (fun wr hJ=>by(have hC:=HH.o.ref.nil (HE0.o.trans hJ);have ql:=hC.lt;have q:=hJ.held HQB.o (by simp);have qx:=HX.o.ext hJ (by simp);have qxc:=qx.cell;have qxl:=qx.lt;clear qx hC);clear hJ;exact CL) ?_;simp only[PT])
  refine Hq (sZA w1.heap.size) rfl rfl rfl ?_ ?_
  ·intro wr nr hg hJ hf;refine⟨wr.heap.size,wr.alloc (.cells #[(0:Int),(0:Int),(0:Int)] 136),?_,⟨Blk.new _ _ _,hJ.size⟩,hJ.alloc _,er.alloc _,fun b hb=>by cases hb;simp⟩
   clear hJ hf hg;go_simp
   first|rfl|exact⟨rfl,rfl⟩
  intro (b9:Nat) hfr9;simp only[PT];dsimp only[sZA];refine Hq (sZA w1.heap.size) rfl rfl rfl ?_ ?_
  ·intro wr nr hg hJ hf;refine⟨wr.heap.size,wr.alloc (.cells #[(0:Int),(0:Int),(0:Int)] 136),?_,⟨Blk.new _ _ _,hJ.size⟩,hJ.alloc _,er.alloc _,fun b hb=>by cases hb;simp⟩
   clear hJ hf hg;go_simp
   first|rfl|exact⟨rfl,rfl⟩
  intro (b10:Nat) hfr10;simp only[PT];dsimp only[sZA];have hne:b9≠b10:=fun e=>hfr10 b10 rfl (.inl (by rw[<-e];rfl))
  clear hfr9 hfr10;refine Xu (fun wq=>Blk wq b9 136 #[.int .i64 (-1),ra,(ra+xm)]/\Blk wq b10 136 #[(0:Int),(0:Int),(0:Int)]/\w1.heap.size<=b10) rfl rfl ?_ ?_
  ·intro wq hJ hk;obtain⟨_,hF⟩:=hk;have f9:Blk wq b9 136 #[(0:Int),(0:Int),(0:Int)]/\w1.heap.size<=b9:=hF 25;have f10:Blk wq b10 136 #[(0:Int),(0:Int),(0:Int)]/\w1.heap.size<=b10:=hF 26;refine⟨((wq.setCell ⟨b9,0,none⟩ (.int .i64 (-1))).setCell ⟨b9,1,none⟩ ra).setCell ⟨b9,2,none⟩ (.int .i64 (ra+xm)),?_,((hJ.setCell (.inr f9.2) _).setCell (.inr f9.2) _).setCell (.inr f9.2) _,((f9.1.set_ 0 _).set_ 1 _).set_ 2 _,((f10.1.far (p:=⟨b9,0,none⟩) (Ne.symm hne) _).far (p:=⟨b9,1,none⟩) (Ne.symm hne) _).far (p:=⟨b9,2,none⟩) (Ne.symm hne) _,f10.2⟩
   have qc:=f9.1.cell;have qf:=f9.1.frozen;have ql:=f9.1.lt;clear hF f10 f9 hJ;go_simp;try (first|rfl|exact⟨rfl,rfl⟩)
  simp only[PT];refine No (fun wq hJ hk=>?_)
  have hk':Blk wq b9 136 #[.int .i64 (-1),ra,(ra+xm)]/\Blk wq b10 136 #[(0:Int),(0:Int),(0:Int)]/\w1.heap.size<=b10:=hk;have HK:=hd hk';have HJ:=hd hJ;have HNE:=hd hne;have qc:=hk'.2.1.cell;have qf:=hk'.2.1.frozen;have ql:=hk'.2.1.lt;clear hk hk' hJ hne;go_wp2_with fail
  go_meet
  exact⟨_,_,rfl,rfl,((HK.o.1.far (p:=⟨b10,0,none⟩) HNE.o _).far (p:=⟨b10,1,none⟩) HNE.o _).far (p:=⟨b10,2,none⟩) HNE.o _,((HK.o.2.1.set_ 0 _).set_ 1 _).set_ 2 _,HE0.o.trans (((HJ.o.setCell (.inr HK.o.2.2) _).setCell (.inr HK.o.2.2) _).setCell (.inr HK.o.2.2) _),HX.o.ext (((HJ.o.setCell (.inr HK.o.2.2) _).setCell (.inr HK.o.2.2) _).setCell (.inr HK.o.2.2) _) (by simp)⟩
 case rest=>
  obtain⟨b9,b10,rfl,rfl,hB9,hB10,hE3,hX3⟩:=hcut;rename World=>wc
  have HB9:=hd hB9;have HB10:=hd hB10;have HE3:=hd hE3;have HX3:=hd hX3;clear hB9 hB10 hE3 hX3 x0 x1 x2 x3 x4 x5 x6 x7 x8 q3 ql qrb hqx;have qxc:=HX3.o.cell;have qxl:=HX3.o.lt;rcases hk with rfl|rfl
  ·go_wp2_with fail
   refine rgH 5 [(1,sBn (-1) ra (ra+xm)),(3,sBn xc rb (rb+xm))] ?_ ?_
   ·exact Ah.cons sBn.stays (Ah.cons sBn.stays Ah.nil)
   simp only[TK]
   repeat(refine dE (fun wr nr hJ=>by(have qa:=HB9.o.ext hJ.1 (by simp);have qac:=qa.cell;have qal:=qa.lt;have qb:=HB10.o.ext hJ.1 (by simp);have qbc:=qb.cell;have qbl:=qb.lt;clear qa qb);clear hJ;exact CL) ?_;simp only[PT])
   refine Ct (sBn (-1) ra (ra+xm)) rfl rfl ?_ ?_
   ·intro wr nr hJ hf;refine⟨wr.heap.size,.cells #[.int .i64 (-1),ra,(ra+xm)] 136,?_,Blk.new _ _ _⟩
    clear hJ hf;go_simp
    first|rfl|exact⟨rfl,rfl⟩
   intro (b1:Nat);simp only[PT];dsimp only[sBn]
   repeat(refine dE (fun wr nr hJ=>by(have qa:=HB9.o.ext hJ.1 (by simp);have qac:=qa.cell;have qal:=qa.lt;have qb:=HB10.o.ext hJ.1 (by simp);have qbc:=qb.cell;have qbl:=qb.lt;clear qa qb);clear hJ;exact CL) ?_;simp only[PT])
   refine Ct (sBn xc rb (rb+xm)) rfl rfl ?_ ?_
   ·intro wr nr hJ hf;refine⟨wr.heap.size,.cells #[xc,rb,(rb+xm)] 136,?_,Blk.new _ _ _⟩
    clear hJ hf;go_simp
    first|rfl|exact⟨rfl,rfl⟩
   intro (b2:Nat);simp only[PT];dsimp only[sBn]
   repeat(refine dE (fun wr nr hJ=>by clear hJ;exact CL) ?_;simp only[PT])
   refine Aa (fun w6 hJ hF=>?_)
   have hb1:Blk w6 b1 136 #[.int .i64 (-1),ra,(ra+xm)]:=hF 1;have hb2:Blk w6 b2 136 #[xc,rb,(rb+xm)]:=hF 3;have HB1:=hd hb1;have HB2:=hd hb2;have HE6:=hd (HE3.o.trans hJ.1);have er:Ae m S ⟨18,1,xd,a,b,xc,xp,xn,xm⟩=[⟨(-1),ra,xm⟩]:=by(try rw[HRA.o]);(try rw[HRB.o]);simp[Ae]
   have ew:Ab m S ⟨18,1,xd,a,b,xc,xp,xn,xm⟩=[⟨xc,rb,xm⟩]:=by(try rw[HRA.o]);(try rw[HRB.o]);simp[Ab]
   have HER:=hd er;have HEW:=hd ew;clear hF hJ hb1 hb2 er ew;go_wp2_with fail
   go_ret2
   exact⟨_,1,1,_,1,1,rfl,by rw[HER.o];rfl,by rw[HEW.o];rfl,HE6.o,by rw[HER.o];exact RdB.one HB1.o rfl rfl rfl,by rw[HEW.o];exact RdB.one HB2.o rfl rfl rfl,Src.one _,Src.one _,TyA.one HB1.o,TyA.one HB2.o⟩
  ·go_wp2_with fail
   refine rgH 5 [(1,sBn xc rb (rb+xm)),(3,sBn (-1) ra (ra+xm))] ?_ ?_
   ·exact Ah.cons sBn.stays (Ah.cons sBn.stays Ah.nil)
   simp only[TK]
   repeat(refine dE (fun wr nr hJ=>by(have qa:=HB9.o.ext hJ.1 (by simp);have qac:=qa.cell;have qal:=qa.lt;have qb:=HB10.o.ext hJ.1 (by simp);have qbc:=qb.cell;have qbl:=qb.lt;clear qa qb);clear hJ;exact CL) ?_;simp only[PT])
   refine Ct (sBn xc rb (rb+xm)) rfl rfl ?_ ?_
   ·intro wr nr hJ hf;refine⟨wr.heap.size,.cells #[xc,rb,(rb+xm)] 136,?_,Blk.new _ _ _⟩
    clear hJ hf;go_simp
    first|rfl|exact⟨rfl,rfl⟩
   intro (b1:Nat);simp only[PT];dsimp only[sBn]
   repeat(refine dE (fun wr nr hJ=>by(have qa:=HB9.o.ext hJ.1 (by simp);have qac:=qa.cell;have qal:=qa.lt;have qb:=HB10.o.ext hJ.1 (by simp);have qbc:=qb.cell;have qbl:=qb.lt;clear qa qb);clear hJ;exact CL) ?_;simp only[PT])
   refine Ct (sBn (-1) ra (ra+xm)) rfl rfl ?_ ?_
   ·intro wr nr hJ hf;refine⟨wr.heap.size,.cells #[.int .i64 (-1),ra,(ra+xm)] 136,?_,Blk.new _ _ _⟩
    clear hJ hf;go_simp
    first|rfl|exact⟨rfl,rfl⟩
   intro (b2:Nat);simp only[PT];dsimp only[sBn]
   repeat(refine dE (fun wr nr hJ=>by clear hJ;exact CL) ?_;simp only[PT])
   refine Aa (fun w6 hJ hF=>?_)
   have hb1:Blk w6 b1 136 #[xc,rb,(rb+xm)]:=hF 1;have hb2:Blk w6 b2 136 #[.int .i64 (-1),ra,(ra+xm)]:=hF 3;have HB1:=hd hb1;have HB2:=hd hb2;have HE6:=hd (HE3.o.trans hJ.1);have er:Ae m S ⟨18,2,xd,a,b,xc,xp,xn,xm⟩=[⟨xc,rb,xm⟩]:=by(try rw[HRA.o]);(try rw[HRB.o]);simp[Ae]
   have ew:Ab m S ⟨18,2,xd,a,b,xc,xp,xn,xm⟩=[⟨(-1),ra,xm⟩]:=by(try rw[HRA.o]);(try rw[HRB.o]);simp[Ab]
   have HER:=hd er;have HEW:=hd ew;clear hF hJ hb1 hb2 er ew;go_wp2_with fail
   go_ret2
   exact⟨_,1,1,_,1,1,rfl,by rw[HER.o];rfl,by rw[HEW.o];rfl,HE6.o,by rw[HER.o];exact RdB.one HB1.o rfl rfl rfl,by rw[HEW.o];exact RdB.one HB2.o rfl rfl rfl,Src.one _,Src.one _,TyA.one HB1.o,TyA.one HB2.o⟩
theorem Ir {w:World}{R:RA}{m:Mc}{xs:List Ins}{S:MS}(h:Ak w R m xs S)(hw:WfM m S)(xo xk xd xa xb xc xp xn xm:Int)(hv:VI m ⟨xo,xk,xd,xa,xb,xc,xp,xn,xm⟩) :
  Calls prog 50 #[.pointer (some R.A.c),.agg #[xo,xk,xd,xa,xb,xc,xp,xn,xm]] w (Ka m S ⟨xo,xk,xd,xa,xb,xc,xp,xn,xm⟩ w):=by
 have ha0:=hv.a;have hbb:=hv.b;have hmc:=Bc h.kd.ok;dsimp only at ha0 hbb;obtain⟨a,rfl⟩:∃n:Nat,xa=n:=⟨xa.toNat,by omega⟩;obtain⟨b,rfl⟩:∃n:Nat,xb=n:=⟨xb.toNat,by omega⟩;have hk:Kb w R m xs S a b xn xm:=⟨h,hw,by omega,by omega,hv.n,hv.mm⟩;by_cases h5:xo=5
 ·subst h5;exact Aam _ _ _ _ _ _ _ _ hk
 by_cases h6:xo=6
 ·subst h6;exact Aan _ _ _ _ _ _ _ _ hk
 by_cases h7:xo=7
 ·subst h7;exact Aao _ _ _ _ _ _ _ _ hk
 by_cases h8:xo=8
 ·subst h8;exact Aap _ _ _ _ _ _ _ _ hk
 by_cases h9:xo=9
 ·subst h9;exact Aaq _ _ _ _ _ _ _ _ hk
 by_cases h10:xo=10
 ·subst h10;exact Xs _ _ _ _ _ _ _ _ hk
 by_cases h14:xo=14
 ·subst h14;have:=hv.wm rfl;dsimp only at this;exact Xw _ _ _ _ _ _ _ _ hk (by omega)
 by_cases h18:xo=18
 ·subst h18;have:=hv.ks rfl;dsimp only at this;exact Xx _ _ _ _ _ _ _ _ hk this.1 (by omega)
 exact Tf _ _ _ _ _ _ _ _ _ hk ⟨h5,h6,h7,h8,h9,h10,h14,h18⟩
end
def rmA (f:Nat->Value):Array Value:=Array.ofFn (n:=41) fun i=>f i
theorem Gw (f:Nat->Value){i:Nat}(h:i<41):(rmA f)[i]? = some (f i):=by simp[rmA,h]
theorem Kn (f:Nat->Value):(rmA f).size=41:=by simp[rmA]
theorem Os (f:Nat->Value)(i:Nat)(v:Value):(rmA f).setIfInBounds i v=rmA (fun j=>if j=i then v else f j):=by
 apply Array.ext_getElem?
 intro j;rw[Array.getElem?_setIfInBounds];by_cases hj:j<41
 ·rw[Gw _ hj,Gw _ hj];by_cases hk:i=j
  ·subst hk;rw[ijp rfl,ijp rfl,ijp (by rw[Kn];exact hj)]
  ·rw[ijn hk,ijn (fun e=>hk e.symm)]
 ·have h1:(rmA f)[j]? = none:=Array.getElem?_eq_none (by rw[Kn];omega);have h2:(rmA fun j=>if j=i then v else f j)[j]? = none:=Array.getElem?_eq_none (by rw[Kn];omega);rw[h1,h2,Kn];split
  ·rw[ijn (by omega)]
  ·rfl
theorem Pd {f g:Nat->Value}(h:∀i,i<41->f i=g i):rmA f=rmA g:=by
 apply Array.ext_getElem?
 intro j;by_cases hj:j<41
 ·rw[Gw _ hj,Gw _ hj,h j hj]
 ·rw[Array.getElem?_eq_none (by rw[Kn];omega),Array.getElem?_eq_none (by rw[Kn];omega)]
def rmZ (ml NB N L q:Nat)(code accv mainv mapv:Value)(k:Nat)(vb:Nat->Nat)(wv bv sv:Value)(over:Bool)(i:Nat):Value:=
 if i<5 then(#[ml,NB,N,L,q]:Array Value).getD i undef
 else if i=5 then code
 else if i<22 then .int .i64 0
 else if i<30 then(if i<22+k then .slice (some ⟨vb (i-22),0,none⟩) L L else .slice none 0 0)
 else if i=30 then wv
 else if i=31 then accv
 else if i=32 then mainv
 else if i=33 then bv
 else if i=34 then sv
 else if i=35 then mapv
 else if i=36 then .slice none 0 0
 else if i<39 then .int .i64 0
 else if i=39 then .pointer none
 else .bool over
theorem Ahs {ml NB N L q k:Nat}{code accv mainv mapv wv bv sv:Value}{vb:Nat->Nat}{over:Bool}(g:Nat)(hk:k<8)(i:Nat):(if i=22+k then Value.slice (some g) L L else rmZ ml NB N L q code accv mainv mapv k vb wv bv sv over i)=rmZ ml NB N L q code accv mainv mapv (k+1) (fun j=>if j=k then g else vb j) wv bv sv over i:=by
 unfold rmZ;by_cases h1:i<5
 ·rw[ijn (by omega),ijp h1,ijp h1]
 rw[ijn (c:=i<5) h1,ijn (c:=i<5) h1];by_cases h2:i=5
 ·rw[ijn (by omega),ijp h2,ijp h2]
 rw[ijn (c:=i=5) h2,ijn (c:=i=5) h2];by_cases h3:i<22
 ·rw[ijn (by omega),ijp h3,ijp h3]
 rw[ijn (c:=i<22) h3,ijn (c:=i<22) h3];by_cases h4:i<30
 ·rw[ijp (c:=i<30) h4,ijp (c:=i<30) h4];by_cases h5:i=22+k
  ·rw[ijp h5,ijp (by omega)];show _=Value.slice (some ⟨if i-22=k then g else vb (i-22),0,none⟩) L L
   rw[ijp (by omega)]
  ·rw[ijn h5];by_cases h6:i<22+k
   ·rw[ijp h6,ijp (by omega)];show _=Value.slice (some ⟨if i-22=k then g else vb (i-22),0,none⟩) L L
    rw[ijn (by omega)]
   ·rw[ijn h6,ijn (by omega)]
 ·rw[ijn (c:=i=22+k) (by omega),ijn (c:=i<30) h4,ijn (c:=i<30) h4]
theorem Aht {ml NB N L q k:Nat}{code accv mainv mapv wv bv sv:Value}{vb:Nat->Nat}{over:Bool}(v:Value)(i:Nat):(if i=30 then v else rmZ ml NB N L q code accv mainv mapv k vb wv bv sv over i)=rmZ ml NB N L q code accv mainv mapv k vb v bv sv over i:=by
 unfold rmZ;by_cases h:i=30
 ·subst h;rfl
 ·rw[ijn h,ijn (c:=i=30) h,ijn (c:=i=30) h]
theorem Ahu {ml NB N L q k:Nat}{code accv mainv mapv wv bv sv:Value}{vb:Nat->Nat}{over:Bool}(v:Value)(i:Nat):(if i=33 then v else rmZ ml NB N L q code accv mainv mapv k vb wv bv sv over i)=rmZ ml NB N L q code accv mainv mapv k vb wv v sv over i:=by
 unfold rmZ;by_cases h:i=33
 ·subst h;rfl
 ·rw[ijn h,ijn (c:=i=33) h,ijn (c:=i=33) h]
theorem Ahv {ml NB N L q k:Nat}{code accv mainv mapv wv bv sv:Value}{vb:Nat->Nat}{over:Bool}(v:Value)(i:Nat):(if i=34 then v else rmZ ml NB N L q code accv mainv mapv k vb wv bv sv over i)=rmZ ml NB N L q code accv mainv mapv k vb wv bv v over i:=by
 unfold rmZ;by_cases h:i=34
 ·subst h;rfl
 ·rw[ijn h,ijn (c:=i=34) h,ijn (c:=i=34) h]
theorem Ahw {ml NB N L q k:Nat}{code accv mainv mapv wv bv sv:Value}{vb:Nat->Nat}{over:Bool}(b:Bool){i:Nat}(hi:i<41):(if i=40 then .bool b else rmZ ml NB N L q code accv mainv mapv k vb wv bv sv over i)=rmZ ml NB N L q code accv mainv mapv k vb wv bv sv b i:=by
 unfold rmZ;by_cases h:i=40
 ·subst h;rfl
 ·rw[ijn h];by_cases c:i<5
  ·rw[ijp (c:=i<5) c,ijp (c:=i<5) c]
  rw[ijn (c:=i<5) c,ijn (c:=i<5) c];by_cases c:i=5
  ·rw[ijp (c:=i=5) c,ijp (c:=i=5) c]
  rw[ijn (c:=i=5) c,ijn (c:=i=5) c];by_cases c:i<22
  ·rw[ijp (c:=i<22) c,ijp (c:=i<22) c]
  rw[ijn (c:=i<22) c,ijn (c:=i<22) c];by_cases c:i<30
  ·rw[ijp (c:=i<30) c,ijp (c:=i<30) c]
  rw[ijn (c:=i<30) c,ijn (c:=i<30) c];by_cases c:i=30
  ·rw[ijp (c:=i=30) c,ijp (c:=i=30) c]
  rw[ijn (c:=i=30) c,ijn (c:=i=30) c];by_cases c:i=31
  ·rw[ijp (c:=i=31) c,ijp (c:=i=31) c]
  rw[ijn (c:=i=31) c,ijn (c:=i=31) c];by_cases c:i=32
  ·rw[ijp (c:=i=32) c,ijp (c:=i=32) c]
  rw[ijn (c:=i=32) c,ijn (c:=i=32) c];by_cases c:i=33
  ·rw[ijp (c:=i=33) c,ijp (c:=i=33) c]
  rw[ijn (c:=i=33) c,ijn (c:=i=33) c];by_cases c:i=34
  ·rw[ijp (c:=i=34) c,ijp (c:=i=34) c]
  rw[ijn (c:=i=34) c,ijn (c:=i=34) c];by_cases c:i=35
  ·rw[ijp (c:=i=35) c,ijp (c:=i=35) c]
  rw[ijn (c:=i=35) c,ijn (c:=i=35) c];by_cases c:i=36
  ·rw[ijp (c:=i=36) c,ijp (c:=i=36) c]
  rw[ijn (c:=i=36) c,ijn (c:=i=36) c];by_cases c:i<39
  ·rw[ijp (c:=i<39) c,ijp (c:=i<39) c]
  rw[ijn (c:=i<39) c,ijn (c:=i<39) c];rw[ijp (c:=i=39) (by omega),ijp (c:=i=39) (by omega)]
def kdR (c mb bo so qb eb ab NB K1 K3:Nat)(A:Option Addr)(bk sb:Nat->Nat)(x:Nat):Nat:=
 if x=c then 0 else if x=mb then 1 else if x=bo then 2 else if x=so then 3 else if x=qb then 4 else if x=eb then 5 else if x=ab then 9
 else if A.any (fun a=>a.block==x) then 6
 else if K1<=x/\x<K3 then 8
 else match (List.range NB).find? (fun b=>bk b==x) with
  | some b=>10+b
  | none=>match (List.range NB).find? (fun b=>sb b==x) with
   | some b=>20+b
   | none=>40
theorem Adw (ml NB N L q:Nat)(hok:(Mc.mk ml NB N L q).okB=true)(xs:List Ins)(main:List Int)(hml:main.length=ml)(w:World)(H K1 K2 K3 c mb mc qb ab:Nat)(Ac:Option Addr)(ca:Nat)(wv bv sv:Value)(vb wr bk sb:Nat->Nat)
  (hB:Blk w c 52 (rmA (rmZ ml NB N L q (.slice Ac xs.length ca) (.slice (some ab) L L) (.slice (some mb) ml mc) (.map (some qb)) 8 vb wv bv sv (xs.length==0))))
  (hR:RdC w Ac xs) (hAc:∀a,Ac=some a->xs≠[]->a.block<H) (hmc:ml<=mc) (hU:UpW w mb 3 ml fun i=>.int .i64 (main.getD i 0)) (hQ:Hg w qb (fun _=>none)) (hab:Blk w ab 3 (Dg L))
  (hv:∀d,d<8->Blk w (vb d) 3 (Dg L)/\K1<=vb d/\vb d<K2) (hw:w.ownsRow K2 22 1 wv L (rows wr L L)) (hw3:∀g,wv.ownBlock=some g->g<K3) (hwr:∀i,i<L->Blk w (wr i) 3 (Dg L)/\K2<=wr i/\wr i<K3)
  (hI:Jo K3 N NB bv sv w bk sb) (h0:H<=c/\H<=mb/\H<=qb/\H<=ab) (h1:c<K1/\mb<K1/\qb<K1/\ab<K1) (hma:mb≠ab) (h2:K1<=K2/\K2<=K3) :
  ∃R:RA,Ak w R ⟨ml,NB,N,L,q⟩ xs (MS.new main xs.length)/\R.A.c=c/\R.A.code=Ac/\∀b,R.A.kd b<40->H<=b\/(xs≠[]/\∃a,Ac=some a/\a.block=b):=by
 have hmk:=Bc hok;dsimp only at hmk;obtain⟨bo,bcap,rfl,hbK,hbU,hbc⟩:=Ok hI.rowB (by omega) (f:=fun b=>.slice (some ⟨bk b,0,none⟩) N N) (fun i hi=>Lx _ _ _ _ hi);obtain⟨so,scap,rfl,hsK,hsU,hsc⟩:=Ok hI.rowS (by omega) (f:=fun b=>.slice (some ⟨sb b,0,none⟩) N N) (fun i hi=>Lx _ _ _ _ hi);obtain⟨eb,wcap,rfl,heK,heU,hwc⟩:=Ok hw (by omega) (f:=fun b=>.slice (some ⟨wr b,0,none⟩) L L) (fun i hi=>Lx _ _ _ _ hi);have he3:=hw3 eb rfl;obtain⟨bC,hbC,_⟩:=id hbU;obtain⟨sC,hsC,_⟩:=id hsU;obtain⟨eC,heC,_⟩:=id heU;obtain⟨mC,hmC,_⟩:=id hU;have e1:bo≠so:=hbC.apart hsC (by decide);have e2:∀b,b<NB->bk b≠bo:=fun b hb=>(hI.bank b hb).1.apart hbC (by decide)
 have e3:∀b,b<NB->bk b≠so:=fun b hb=>(hI.bank b hb).1.apart hsC (by decide)
 have e4:∀b,b<NB->sb b≠bo:=fun b hb=>(hI.set b hb).1.apart hbC (by decide)
 have e5:∀b,b<NB->sb b≠so:=fun b hb=>(hI.set b hb).1.apart hsC (by decide)
 have e6:∀a b,a<NB->b<NB->bk a≠sb b:=fun a b ha hb=>(hI.bank a ha).1.apart (hI.set b hb).1 (by decide)
 have e7:∀b,b<NB->K3<=bk b:=fun b hb=>(hI.bank b hb).2
 have e8:∀b,b<NB->K3<=sb b:=fun b hb=>(hI.set b hb).2
 have e9:c≠mb:=hB.apart hmC (by decide);have e10:c≠ab:=hB.apart hab (by decide);have e11:qb≠c:=hQ.apart hB;have e12:qb≠mb:=hQ.apart hmC;have e13:qb≠ab:=hQ.apart hab;have e14:∀d,d<8->vb d≠eb:=fun d hd=>(hv d hd).1.apart heC (by decide)
 have e15:∀i,i<L->wr i≠eb:=fun i hi=>(hwr i hi).1.apart heC (by decide)
 obtain⟨Ad,hAd1,hAd2,hAd3⟩:∃Ad:Option Addr,(∀x,H<=x->Ad.any (fun a=>a.block==x)=false)/\(xs=[]\/Ad=Ac)/\∀x,Ad.any (fun a=>a.block==x)=true->xs≠[]/\∃a,Ac=some a/\a.block=x:=by
  by_cases hx:xs=[]
  ·exact⟨none,fun _ _=>rfl,.inl hx,fun x hx=>by cases hx⟩
  ·refine⟨Ac,fun x hxx=>?_,.inr rfl,fun x hxx=>?_⟩
   ·cases hA:Ac with
    | none=>rfl
    | some a=>have:=hAc a hA hx;simp;omega
   ·cases hA:Ac with
    | none=>rw[hA] at hxx;cases hxx
    | some a=>rw[hA] at hxx;simp at hxx;exact⟨hx,a,rfl,hxx⟩
 have hany:∀x,H<=x->¬(Ad.any (fun a=>a.block==x)=true):=fun x hx h=>by rw[hAd1 x hx] at h;cases h
 refine⟨{A:={c:=c,eb:=eb,mb:=mb,mcap:=mc,bo:=bo,bcap:=bcap,so:=so,scap:=scap,qb:=qb,bk:=bk,sb:=sb,code:=Ac,ccap:=ca,lv:=.slice none 0 0,tb:=fun _=>0,ta:=fun _=>none,tc:=fun _=>0,kd:=kdR c mb bo so qb eb ab NB K1 K3 Ad bk sb },vb:=vb,vc:=fun _=>L,wr:=wr,wc:=fun _=>L,wcap:=wcap,ab:=ab,fb:=0 },?_,rfl,rfl,fun b hb=>?_⟩
 ·have k8:∀x,K1<=x->x<K3->x≠eb->kdR c mb bo so qb eb ab NB K1 K3 Ad bk sb x=8:=fun x hx1 hx2 hx3=>by
   unfold kdR;rw[ijn (by omega),ijn (by omega),ijn (by omega),ijn (by omega),ijn (by omega),ijn hx3,ijn (by omega),ijn (hany x (by omega)),ijp ⟨hx1,hx2⟩]
  refine⟨?_,⟨hR,hbU,hsU,by show(ml:Int).toNat<=mc;omega⟩,⟨?_,fun b hb=>?_,fun b hb=>?_⟩,⟨hQ,fun q t ht=>by cases ht⟩,⟨⟨rfl,.inl ⟨rfl,rfl⟩⟩,fun g hg=>by cases hg⟩,⟨fun d hd=>?_,heU,fun i hi=>?_,?_,?_,?_⟩,(fun a k hf=>by cases hf),?_⟩
  ·have:Fu ⟨ml,NB,N,L,q⟩ {A:={c:=c,eb:=eb,mb:=mb,mcap:=mc,bo:=bo,bcap:=bcap,so:=so,scap:=scap,qb:=qb,bk:=bk,sb:=sb,code:=Ac,ccap:=ca,lv:=.slice none 0 0,tb:=fun _=>0,ta:=fun _=>none,tc:=fun _=>0,kd:=kdR c mb bo so qb eb ab NB K1 K3 Ad bk sb },vb:=vb,vc:=fun _=>L,wr:=wr,wc:=fun _=>L,wcap:=wcap,ab:=ab,fb:=0 } (MS.new main xs.length) xs.length=rmA (rmZ ml NB N L q (.slice Ac xs.length ca) (.slice (some ab) L L) (.slice (some mb) ml mc) (.map (some qb)) 8 vb (.slice (some eb) L wcap) (.slice (some bo) NB bcap) (.slice (some so) NB scap) (xs.length==0)):=by
    refine Pd (fun i hi=>?_)
    have hi2:i=0\/i=1\/i=2\/i=3\/i=4\/i=5\/(6<=i/\i<22)\/(22<=i/\i<30)\/i=30\/i=31\/i=32\/i=33\/i=34\/i=35\/i=36\/i=37\/i=38\/i=39\/i=40:=by omega
    rcases hi2 with rfl|rfl|rfl|rfl|rfl|rfl|h|h|rfl|rfl|rfl|rfl|rfl|rfl|rfl|rfl|rfl|rfl|rfl
    all_goals first
     | rfl
     | (unfold rmF rmZ;rw[ijn (by omega),ijp (by omega),ijn (by omega),ijn (by omega),ijp (by omega)];rfl)
     | (unfold rmF rmZ;rw[ijn (by omega),ijn (by omega),ijp (by omega),ijn (by omega),ijn (by omega),ijn (by omega),ijp (by omega),ijp (by omega)];rfl)
   rw[this];exact hB
  ·exact hU.same (fun i hi=>by show Value.int .i64 (if(-1:Int)<0/\(0:Int)<=(i:Nat) then main.getD ((i:Nat):Int).toNat 0 else 0)=_;rw[ijp ⟨by omega,by omega⟩];rfl)
  ·refine(Ge (hI.bank b hb).1).same (fun i hi=>?_)
   show Value.int .i64 (if((b:Nat):Int)<0/\(0:Int)<=(i:Nat) then main.getD ((i:Nat):Int).toNat 0 else 0)=_
   rw[ijn (by omega)]
  ·exact(Ge (hI.set b hb).1).same (fun i hi=>rfl)
  ·obtain⟨a1,a2,a3⟩:=hv d hd;exact⟨(Ge a1).same (fun i hi=>rfl),k8 (vb d) a2 (by omega) (e14 d hd),Nat.le_refl _⟩
  ·obtain⟨a1,a2,a3⟩:=hwr i hi;exact⟨(Ge a1).same (fun i hi=>rfl),k8 (wr i) (by omega) a3 (e15 i hi),Nat.le_refl _⟩
  ·exact hwc
  ·exact(Ge hab).same (fun i hi=>rfl)
  ·show kdR c mb bo so qb eb ab NB K1 K3 Ad bk sb ab=9;unfold kdR;rw[ijn (by omega),ijn (by omega),ijn (by omega),ijn (by omega),ijn (by omega),ijn (by omega),ijp rfl]
  ·refine⟨hok,?_,?_,?_,?_,?_,?_,?_,fun b hb=>?_,fun b hb=>?_⟩
   ·show kdR c mb bo so qb eb ab NB K1 K3 Ad bk sb c=0;unfold kdR;rw[ijp rfl]
   ·show kdR c mb bo so qb eb ab NB K1 K3 Ad bk sb mb=1;unfold kdR;rw[ijn (by omega),ijp rfl]
   ·show kdR c mb bo so qb eb ab NB K1 K3 Ad bk sb bo=2;unfold kdR;rw[ijn (by omega),ijn (by omega),ijp rfl]
   ·show kdR c mb bo so qb eb ab NB K1 K3 Ad bk sb so=3;unfold kdR;rw[ijn (by omega),ijn (by omega),ijn (by omega),ijp rfl]
   ·show kdR c mb bo so qb eb ab NB K1 K3 Ad bk sb qb=4;unfold kdR;rw[ijn (by omega),ijn (by omega),ijn (by omega),ijn (by omega),ijp rfl]
   ·show kdR c mb bo so qb eb ab NB K1 K3 Ad bk sb eb=5;unfold kdR;rw[ijn (by omega),ijn (by omega),ijn (by omega),ijn (by omega),ijn (by omega),ijp rfl]
   ·rcases hAd2 with h|rfl
    ·exact .inl h
    ·by_cases hx:xs=[]
     ·exact .inl hx
     ·refine .inr fun a ha=>?_
      have hlt:=hAc a ha hx;show kdR c mb bo so qb eb ab NB K1 K3 Ad bk sb a.block=6
      unfold kdR;rw[ijn (by omega),ijn (by omega),ijn (by omega),ijn (by omega),ijn (by omega),ijn (by omega),ijn (by omega),ijp (by rw[show Ad=some a from ha];simp)]
   ·have hb':b<NB:=by have:(NB:Int).toNat=NB:=rfl;exact hb
    have h1':=e7 b hb';have h2':=e2 b hb';have h3':=e3 b hb';show kdR c mb bo so qb eb ab NB K1 K3 Ad bk sb (bk b)=10+b
    unfold kdR;rw[ijn (by omega),ijn (by omega),ijn h2',ijn h3',ijn (by omega),ijn (by omega),ijn (by omega),ijn (hany _ (by omega)),ijn (by omega),Oj hb' hI.apartB]
   ·have hb':b<NB:=by have:(NB:Int).toNat=NB:=rfl;exact hb
    have h1':=e8 b hb';have h2':=e4 b hb';have h3':=e5 b hb';show kdR c mb bo so qb eb ab NB K1 K3 Ad bk sb (sb b)=20+b
    unfold kdR;rw[ijn (by omega),ijn (by omega),ijn h2',ijn h3',ijn (by omega),ijn (by omega),ijn (by omega),ijn (hany _ (by omega)),ijn (by omega),Qk (fun i hi=>e6 i b hi hb'),Oj hb' hI.apartS]
 ·replace hb:kdR c mb bo so qb eb ab NB K1 K3 Ad bk sb b<40:=hb;by_cases hAny:Ad.any (fun a=>a.block==b)=true
  ·exact .inr (hAd3 b hAny)
  left
  by_cases hlt:H<=b
  ·exact hlt
  exfalso
  unfold kdR at hb;rw[ijn (by omega),ijn (by omega),ijn (by omega),ijn (by omega),ijn (by omega),ijn (by omega),ijn (by omega),ijn hAny,ijn (by omega),Qk (fun i hi=>by have:=e7 i hi;omega),Qk (fun i hi=>by have:=e8 i hi;omega)] at hb;dsimp only at hb;omega
section
attribute [local irreducible] Ax
theorem Lh {P:Program}(w:World)(t ty e:TypeId)(i:TypeInfo)(ht:P.underlying t=some (.slice e))(hi:P.info? e=some i)(base:Option Addr)(n c:Nat)(h:n<=c) :
  (Builtin.append_ #[t,t] ty #[.slice base n c,.slice none 0 0]).run P w=.ok (.slice base n c) w:=by
 cases base<;>simp[Builtin.append_,run_underlying ht,sizeOf,typeInfo,hi,Builtin.lenOf,Builtin.firstCells,h,Result.andThen,storeCells]
def Ahx (B k:Nat)(w:World)(e:Ending)(w':World):Prop:=∃v,e=.returned v/\Ext [] w w'/\w'.ownsRow B 136 3 v 0 []
theorem Adz (k:Nat)(hk:k<=100)(w:World) :
  Calls prog 116 #[.slice none 0 0,k] w (Ahx w.heap.size k w):=by
 obtain⟨i0,hi0,hz0,hz1,hz2⟩:=info_parts (show((prog).info? 136).map (fun i=>(i.zero,i.size,i.bytes))=some (some (.agg #[(0:Int),(0:Int),(0:Int)]),3,24) by kernel_rfl);by_cases h0:k=0
 ·subst h0;go_enter func116,ntmps116
  go_wp2_with fail
  go_ret
  exact⟨_,rfl,er,rfl,.inl ⟨rfl,rfl⟩⟩
 ·have hk0:0<k:=by omega
  have hrun:∀ty,(Builtin.append_ #[95,3] ty #[.slice none 0 0,k]).run prog w=.ok (.slice (some w.heap.size) k (grownCap w k 0 136)) (w.drew.alloc (.cells (#[] ++ Builtin.zeroCells (Value.cells (.agg #[(0:Int),(0:Int),(0:Int)])) k ++ Builtin.zeroCells (Value.cells (.agg #[(0:Int),(0:Int),(0:Int)])) (grownCap w k 0 136-k)) 136)):=fun ty=>by
   have h:=Go.Lib.run_append_grow_zeros (P:=prog) w 95 3 ty 136 i0 (.agg #[(0:Int),(0:Int),(0:Int)]) .i64 .i64 underlying95 underlying3 hi0 hz0 none 0 0 [] (by simp[Builtin.firstCells]) k hk0 (by rw[hz1];omega) (by omega) (by omega) (by rw[hz2];omega) (growslice_fits (by omega) (by rw[hz2];omega));simpa using h
  have hgc:=grownCap_ge w k 0 136;have hgm:=grownCap_le_maxLen w k 0 136 (by unfold maxLen;omega);obtain⟨G,hG⟩:∃G,grownCap w k 0 136=G:=⟨_,rfl⟩;rw[hG] at hrun hgc hgm;obtain⟨C,hC⟩:∃C,#[] ++ Builtin.zeroCells (Value.cells (.agg #[(0:Int),(0:Int),(0:Int)])) k ++ Builtin.zeroCells (Value.cells (.agg #[(0:Int),(0:Int),(0:Int)])) (G-k)=C:=⟨_,rfl⟩;have hCs:C.size=G*3:=by rw[<-hC];simp[Builtin.zeroCells,Value.cells];omega
  rw[hC] at hrun;clear hG hC;unfold maxLen at hgm;have HCS:=hd hCs;clear hCs;go_enter func116,ntmps116
  go_wp2_with (at_builtin;refine Lib.wpList_append_run _ rfl _ _ _ _ rfl _ _ rfl rfl _ _ (hrun _) ?_)
  go_ret
  exact⟨_,rfl,er.drew.alloc _,rfl,.inr ⟨w.heap.size,G,C,rfl,Nat.le_refl _,by show Blk (w.drew.alloc _) _ _ _;exact Blk.new w.drew _ _,Nat.zero_le _,hgm,HCS.o,by simp⟩⟩
theorem Yh (l:List Ar):∀u∈Ij l,u.oneCell'=true:=by
 intro u hu;obtain⟨a,_,ha⟩:=List.mem_flatMap.1 hu;simp[Ar.cellsR] at ha;rcases ha with rfl|rfl|rfl<;>rfl
theorem RdB.news {w:World}{b:Nat}{l:List Ar}(h:RdB w (some b) l):∀j u,(Ij l)[j]? = some u->w.cell? ((⟨b,0,none⟩:Addr).add j)=some u:=by
 intro j u hu;have hj:j<l.length*3:=by rw[<-Ma];exact(ils hu).1
 rcases h with h|⟨b',o,he,h⟩
 ·subst h;simp at hj
 ·cases he
  obtain⟨a,ha⟩:∃a,l[j / 3]? = some a:=⟨_,List.getElem?_eq_getElem (by omega)⟩;obtain⟨c1,c2,c3⟩:=h _ _ ha;obtain⟨d1,d2,d3⟩:=Xv l _ _ ha;rw[Addr.add_mk];have hm:j % 3=0\/j % 3=1\/j % 3=2:=by omega
  rcases hm with hm|hm|hm
  ·rw[show j / 3*3=j by omega] at c1 d1;rw[hu] at d1;cases d1;simpa using c1
  ·rw[show 0+j / 3*3+1=0+j by omega] at c2;rw[show j / 3*3+1=j by omega] at d2;rw[hu] at d2;cases d2;exact c2
  ·rw[show 0+j / 3*3+2=0+j by omega] at c3;rw[show j / 3*3+2=j by omega] at d3;rw[hu] at d3;cases d3;exact c3
theorem Mq {w:World}{B:Nat}{e:TypeId}{z n:Nat}{v:Value}{xs:List Value}(h:w.ownsRow B e z v n xs):∃A c,v=.slice A n c/\n<=c:=by
 rcases h.2 with⟨h1,h2⟩|⟨g,c,cur,h1,_,_,h3,_⟩
 ·subst h2;exact⟨none,0,h1,Nat.le_refl _⟩
 ·exact⟨_,c,h1,h3⟩
theorem Ags {w:World}{B n:Nat}{v:Value}{l:List Ar}(h:w.ownsRow B 136 3 v n (Ij l))(hl:l.length=n):∃A c,v=.slice A n c/\RdB w A l:=by
 by_cases hn:n=0
 ·obtain⟨A,c,h1,_⟩:=Mq h;exact⟨A,c,h1,.inl (List.eq_nil_of_length_eq_zero (by omega))⟩
 ·obtain⟨A,c,h1,h2,_⟩:=RdB.own h hl (by omega);exact⟨A,c,h1,h2⟩
def CatP (l:List Ar)(w:World)(e:Ending)(w':World):Prop:=∃A c,e=.returned (.slice A l.length c)/\Ext [] w w'/\RdB w' A l
theorem Me (b c lr cr lw cw:Nat)(A1 A2:Option Addr)(l1 l2:List Ar)(w:World)(h0:w.cell? ⟨b,0,none⟩=some (.slice A1 lr cr))(h1:w.cell? ⟨b,1,none⟩=some (.slice A2 lw cw))(hr1:RdB w A1 l1)(hr2:RdB w A2 l2)(hl1:l1.length=lr)(hl2:l2.length=lw)(hs1:Src A1 lr cr)(hs2:Src A2 lw cw)(hb:lr<=8/\lw<=8) :
  Calls prog 87 #[.slice (some b) 2 c] w (CatP (l1 ++ l2) w):=by
 obtain⟨i0,hi0,hz0,hz1,hz2⟩:=info_parts (show((prog).info? 136).map (fun i=>(i.zero,i.size,i.bytes))=some (some (.agg #[(0:Int),(0:Int),(0:Int)]),3,24) by kernel_rfl);have H0:=hd h0;have H1:=hd h1;have HR1:=hd hr1;have HR2:=hd hr2;have HL1:=hd hl1;have HL2:=hd hl2;have HS1:=hd hs1;have HS2:=hd hs2;have hbl:b<w.heap.size:=World.block_lt_of_cell? w _ h0;obtain⟨hb1,hb2⟩:=hb;have HL:Hd ((l1 ++ l2).length=lr+lw):=hd (by rw[List.length_append,hl1,hl2]);clear h0 h1 hr1 hr2 hl1 hl2 hs1 hs2;go_enter func87,ntmps87
 go_wp2_with fail
 go_loopw [3,11] (fun s i wr=>∃(k:Nat) (z:Nat),i=.int .i64 k/\s=.int .i64 z/\k<=2/\z<=16/\Hd (Ext [] w wr/\(k=0->z=0)/\(k=1->z=lr)/\(k=2->z=lr+lw))) (fun _ i _=>(2-intOf i).toNat)
 case atStart=>exact⟨0,0,rfl,rfl,by omega,by omega,hd ⟨er,fun _=>rfl,fun h=>by omega,fun h=>by omega⟩⟩
 case round=>
  obtain⟨k,z,rfl,rfl,hk,hz,hI⟩:=hrel;rename World=>wq
  by_cases hk2:k<2
  ·have hkc:k=0\/k=1:=by omega
   rcases hkc with rfl|rfl
   ·have q0:=hI.o.1.held H0.o (by simp);have ql:b<wq.heap.size:=nl hbl hI.o.1.size;obtain rfl:=hI.o.2.1 rfl;have HI:=hd hI.o.1;clear hI hk2;go_wp2_with fail
    go_roundw
    case rel=>exact⟨1,lr,by go_num,by go_num,by omega,by omega,hd ⟨HI.o,fun h=>by omega,fun _=>rfl,fun h=>by omega⟩⟩
    case measure=>simp[intOf]
   ·have q1:=hI.o.1.held H1.o (by simp);have ql:b<wq.heap.size:=nl hbl hI.o.1.size;obtain rfl:=hI.o.2.2.1 rfl;have HI:=hd hI.o.1;clear hI hk2;go_wp2_with fail
    go_roundw
    case rel=>exact⟨2,z+lw,by go_num,by go_num,by omega,by omega,hd ⟨HI.o,fun h=>by omega,fun h=>by omega,fun _=>rfl⟩⟩
    case measure=>simp[intOf]
  ·have hk3:k=2:=by omega
   subst hk3;have HZ:=hd (hI.o.2.2.2 rfl);have HI:=hd hI.o.1;clear hI hk2;go_wp2_with fail
   refine(Adz z (by omega) _).mono ?_
   rintro e w2 ⟨v2,rfl,hE2,hO2⟩;have HE2:=hd (HI.o.trans hE2);have HO2:=hd (Abn hO2 HI.o.size);clear hE2 hO2;go_wp2_with fail
   go_loopw [6,27] (fun v i wr=>∃(k:Nat) (u:Value),i=.int .i64 k/\u=v/\k<=2/\Hd (Ext [] w wr/\(k=0->wr.ownsRow w.heap.size 136 3 u 0 [])/\(k=1->wr.ownsRow w.heap.size 136 3 u lr (Ij l1))/\(k=2->wr.ownsRow w.heap.size 136 3 u (lr+lw) (Ij (l1 ++ l2))))) (fun _ i _=>(2-intOf i).toNat)
   case atStart=>exact⟨0,_,rfl,rfl,by omega,hd ⟨HE2.o,fun _=>HO2.o,fun h=>by omega,fun h=>by omega⟩⟩
   case round=>
    obtain⟨k,u,rfl,rfl,hk,hI⟩:=hrel;rename World=>wq
    by_cases hk2:k<2
    ·have hkc:k=0\/k=1:=by omega
     rcases hkc with rfl|rfl
     ·skip
      have q:=hI.o.1.held H0.o (by simp);have ql:b<wq.heap.size:=nl hbl hI.o.1.size;have hO:=hI.o.2.1 rfl;have HI:=hd hI.o.1;have HRR:=hd (HR1.o.ext HI.o (by simp));have hwz:=HI.o.size;rcases HS1.o with⟨e1,e2,e3⟩|⟨e1,e2,bb,e3⟩
      ·obtain⟨Au,cu,rfl,hcu⟩:=Mq hO;have HO:=hd hO;have HE:=hd e2;subst e1 e3;rw[show lr=0 from e2] at q;clear hI hO hk2 e2;have hrun:=fun ty=>Lh (P:=prog) wq 95 ty 136 i0 underlying95 hi0 Au 0 cu hcu
       go_wp2_with (at_builtin;refine Lib.wpList_append_run _ rfl _ _ _ _ rfl _ _ rfl rfl _ _ (hrun _) ?_)
       go_roundw
       case rel=>exact⟨1,_,by go_num,rfl,by omega,hd ⟨HI.o,fun h=>by omega,fun _=>(by have h1:=HO.o;have h2:=HL1.o;rw[HE.o] at h2;have h3:=List.eq_nil_of_length_eq_zero h2;subst h3;rw[HE.o];simpa[Ij] using h1),fun h=>by omega⟩⟩
       case measure=>simp[intOf]
      ·have HO:=hd hO;have HE1:=hd e1;subst e3;clear hI hO hk2 e2
       go_wp2_with (
        refine wpList_append_own_at _ rfl _ _ 95 rfl w.heap.size 136 i0 _ 3 24 underlying95 hi0 hz0 hz1 hz2 rfl (by decide) u 0 _ rfl HO.o ⟨bb,0,none⟩ lr cr (Ij l1) rfl ?c0 ?c1 (Yh _) ?c3 ?c4 ?c5 ?_
        case c0=>rw[Ma,HL1.o]
        case c1=>exact HRR.o.news
        case c3=>unfold maxLen;omega
        case c4=>omega
        case c5=>omega
        intro v8 w8 ho8 hg8 hi8 ha8;have HO8:=hd ho8;have HE8:=hd (HI.o.grown hg8 (fun q hq=>.inr (Bf HO.o q hq)));clear ho8 hg8 hi8 ha8)
       go_roundw
       case rel=>exact⟨1,_,by go_num,rfl,by omega,hd ⟨HE8.o,fun h=>by omega,fun _=>(by have h1:=HO8.o;(try rw[Nat.zero_add] at h1);(try rw[List.nil_append] at h1);simpa[Ij] using h1),fun h=>by omega⟩⟩
       case measure=>simp[intOf]
     ·skip
      have q:=hI.o.1.held H1.o (by simp);have ql:b<wq.heap.size:=nl hbl hI.o.1.size;have hO:=hI.o.2.2.1 rfl;have HI:=hd hI.o.1;have HRR:=hd (HR2.o.ext HI.o (by simp));have hwz:=HI.o.size;rcases HS2.o with⟨e1,e2,e3⟩|⟨e1,e2,bb,e3⟩
      ·obtain⟨Au,cu,rfl,hcu⟩:=Mq hO;have HO:=hd hO;have HE:=hd e2;subst e1 e3;rw[show lw=0 from e2] at q;clear hI hO hk2 e2;have hrun:=fun ty=>Lh (P:=prog) wq 95 ty 136 i0 underlying95 hi0 Au lr cu hcu
       go_wp2_with (at_builtin;refine Lib.wpList_append_run _ rfl _ _ _ _ rfl _ _ rfl rfl _ _ (hrun _) ?_)
       go_roundw
       case rel=>exact⟨2,_,by go_num,rfl,by omega,hd ⟨HI.o,fun h=>by omega,fun h=>by omega,fun _=>(by have h1:=HO.o;have h2:=HL2.o;rw[HE.o] at h2;have h3:=List.eq_nil_of_length_eq_zero h2;subst h3;rw[HE.o];simpa[Ij] using h1)⟩⟩
       case measure=>simp[intOf]
      ·have HO:=hd hO;have HE1:=hd e1;subst e3;clear hI hO hk2 e2
       go_wp2_with (
        refine wpList_append_own_at _ rfl _ _ 95 rfl w.heap.size 136 i0 _ 3 24 underlying95 hi0 hz0 hz1 hz2 rfl (by decide) u lr _ rfl HO.o ⟨bb,0,none⟩ lw cw (Ij l2) rfl ?c0 ?c1 (Yh _) ?c3 ?c4 ?c5 ?_
        case c0=>rw[Ma,HL2.o]
        case c1=>exact HRR.o.news
        case c3=>unfold maxLen;omega
        case c4=>omega
        case c5=>omega
        intro v8 w8 ho8 hg8 hi8 ha8;have HO8:=hd ho8;have HE8:=hd (HI.o.grown hg8 (fun q hq=>.inr (Bf HO.o q hq)));clear ho8 hg8 hi8 ha8)
       go_roundw
       case rel=>exact⟨2,_,by go_num,rfl,by omega,hd ⟨HE8.o,fun h=>by omega,fun h=>by omega,fun _=>(by have h1:=HO8.o;(try rw[Nat.zero_add] at h1);(try rw[List.nil_append] at h1);simpa[Ij] using h1)⟩⟩
       case measure=>simp[intOf]
    ·have hk3:k=2:=by omega
     subst hk3;obtain⟨Af,cf,rfl,hrf⟩:=Ags (hI.o.2.2.2 rfl) HL.o;have HF:=hd hrf;have HI:=hd hI.o.1;clear hI hk2 hrf;go_wp2_with fail
     go_ret
     exact⟨Af,cf,by rw[HL.o];rfl,HI.o,HF.o⟩
end
section
attribute [local irreducible] Ax
theorem Rt {P:Program}{k:TypeId}{H:Type}{E:Value->Option (DataW H×List MemPlace)}{b r n:Nat}{D:DataW H}{left:Lit->Bool}{cnt:Nat}{T:List Nat}{w w':World}(h:w.ranges P k E b r n D left cnt)(hE:Ext T w w')(hb:b∉T)(hr:r∉T):w'.ranges P k E b r n D left cnt:=by
 have h1:=h.owns.lt;have h2:=h.lt;obtain⟨es,clock,since,seen,c0,a1,a2,a3,a4,a5,a6⟩:=h;exact⟨es,clock,since,seen,c0,(hE.block b h1 hb).trans a1,a2,a3,a4,(hE.block r h2 hr).trans a5,a6⟩
theorem Yi (m:Mc)(R:RA)(b:Int)(hb:0<=Bn m b):∃A n c,Ht m R b=.slice A n c/\(n:Int)=Bn m b:=by
 unfold Ht Bn at *;split
 ·rename_i h;rw[ijp h] at hb;exact⟨_,_,_,rfl,by omega⟩
 ·rename_i h;rw[ijn h] at hb;exact⟨_,_,_,rfl,by omega⟩
def Ru (A1:Option Addr)(l1 c1:Nat)(A2:Option Addr)(l2 c2:Nat):Bo:=⟨Nat,0,fun b=>.slice (some ⟨b,0,none⟩) 2 2,fun b w=>w.cell? ⟨b,0,none⟩=some (.slice A1 l1 c1)/\w.cell? ⟨b,1,none⟩=some (.slice A2 l2 c2)⟩
theorem Ru.stays {A1 A2:Option Addr}{l1 c1 l2 c2:Nat}:∀y w w',Ext [] w w'->(Ru A1 l1 c1 A2 l2 c2).V y w->(Ru A1 l1 c1 A2 l2 c2).V y w':=fun _ _ _ hE h=>⟨hE.held h.1 List.not_mem_nil,hE.held h.2 List.not_mem_nil⟩
def Rv (l:List Ar)(n:Nat):Bo:=⟨Option Addr×Nat,(none,0),fun u=>.slice u.1 n u.2,fun u w=>RdB w u.1 l⟩
theorem Rv.stays {l:List Ar}{n:Nat}:∀y w w',Ext [] w w'->(Rv l n).V y w->(Rv l n).V y w':=fun _ _ _ hE h=>RdB.ext h hE (fun _ _=>List.not_mem_nil)
def Agt (m:Mc)(l:List Ar):Prop:=∀a∈l,(a.bank = -1\/(0<=a.bank/\a.bank<m.banks))/\1<=a.size/\a.size<=4096/\-8589930000<=a.lo/\a.lo<=8589930000
theorem Agt.lo {m:Mc}{l:List Ar}(h:Agt m l)(hm:m.okB=true){a:Ar}(ha:a∈l):0<=Bn m a.bank/\Bn m a.bank<=524288:=by
 have hmk:=Bc hm;unfold Bn;split<;>omega
theorem Ot {w:World}{R:RA}{m:Mc}{xs:List Ins}{S:MS}(h:Ak w R m xs S)(hw:WfM m S)(Ra Wa:Option Addr)(lr cr lw cw:Nat)(rs ws:List Ar)(hr:RdB w Ra rs)(hws:RdB w Wa ws)(hlr:rs.length=lr)(hlw:ws.length=lw)(hs1:Src Ra lr cr)(hs2:Src Wa lw cw)(hl:lr<=8/\lw<=8)(hB:Agt m (rs ++ ws)) :
  Calls prog 51 #[.pointer (some R.A.c),.slice Ra lr cr,.slice Wa lw cw] w fun e w'=>e=.returned (.int .i64 (Cg m S rs ws))/\Ext [] w w':=by
 have HH:=hd h;have HW:=hd hw;have HR:=hd hr;have HWs:=hd hws;have HLR:=hd hlr;have HLW:=hd hlw;have HS1:=hd hs1;have HS2:=hd hs2;have HAB:=hd hB;have HN:Hd ((rs ++ ws).length=lr+lw):=hd (by rw[List.length_append,hlr,hlw]);have hm:=Bc h.kd.ok;obtain⟨hl1,hl2⟩:=hl;clear h hw hr hws hlr hlw hs1 hs2 hB;go_enter func51,ntmps51
 go_wp2_with fail
 have HB0:=hd (Blk.new w 95 #[.slice Ra lr cr,.slice Wa lw cw]);have HE0:=hd ((Ext.refl [] w).alloc (.cells #[.slice Ra lr cr,.slice Wa lw cw] 95));refine(Me w.heap.size 2 lr cr lw cw Ra Wa rs ws _ (HB0.o.cell 0) (HB0.o.cell 1) (HR.o.ext HE0.o (by simp)) (HWs.o.ext HE0.o (by simp)) HLR.o HLW.o HS1.o HS2.o ⟨hl1,hl2⟩).mono ?_
 rintro e w1 ⟨Ac,cc,rfl,hE1,hRc⟩;have HE1:=hd (HE0.o.trans hE1);have HRC:=hd hRc;obtain⟨n,hn⟩:∃n,n=(rs ++ ws).length:=⟨_,rfl⟩;have HNN:=hd hn;rw[<-hn];have hn16:n<=16:=by rw[hn,HN.o];omega
 clear hE1 hRc hn HB0 HE0;go_wp2_with fail
 go_loopw [18] (fun i wr=>∃k:Nat,i=.int .i64 k/\k<=n/\Hd (Ext [] w1 wr)/\Hd (∀j y,j<k->(rs ++ ws)[j]? = some y->Hm m y=false)) (fun i _=>(n-intOf i).toNat)
 case atStart=>exact⟨0,rfl,by omega,hd er,hd (fun j y hj=>by omega)⟩
 case round=>
  obtain⟨k,rfl,hk,HEk,HNO⟩:=hrel;rename World=>wq
  by_cases hlt:k<n
  ·obtain⟨a,ha⟩:∃a,(rs ++ ws)[k]? = some a:=⟨_,List.getElem?_eq_getElem (by rw[<-HNN.o];exact hlt)⟩;obtain⟨b,o,rfl,hbl,h1,h2,h3⟩:=(HRC.o.ext HEk.o (by simp)).at ha;have HX:=hd ha;have hab:=HAB.o a (ilm ha);have hsz:=HAB.o.lo HH.o.kd.ok (ilm ha);obtain⟨Av,nv,cv,hwv,hnv⟩:=Yi m R a.bank hsz.1;have HWD:=hd (fun W (hW:Ext [] w W)=>Mp (HH.o.nil hW) a.bank (by omega));rw[hwv] at HWD;have hos:Hm m a=(decide (a.lo<0)||decide (Bn m a.bank-a.size<a.lo)):=rfl;have HOS:=hd hos;have HEs:=hd (HE1.o.trans HEk.o);obtain⟨ab,al,az⟩:=a;dsimp only at h1 h2 h3 hab hsz hnv HWD HOS;rw[<-hnv] at HOS;obtain⟨at',hat⟩:∃x,x=al+az:=⟨_,rfl⟩;rw[<-hat] at h3;have HAT:=hd hat
   have hat0:at'<=8589934592:=by omega
   have hat1 : -8589934592<=at':=by omega
   have hnv2:nv<=524288:=by omega
   obtain⟨-,hz1,hz2,hz3,hz4⟩:=hab;clear ha hwv hos hsz hnv hat
   go_upto_region 4 with fail
   have HB7:=hd (Blk.new wq 136 #[ab,al,at']);have HE7:=hd (HEs.o.alloc (.cells #[ab,al,at'] 136));have HE7k:=hd (HEk.o.alloc (.cells #[ab,al,at'] 136));generalize wq.alloc (.cells #[ab,al,at'] 136)=w7 at *;generalize hwl:wq.heap.size=bl at *;clear h1 h2 h3;by_cases h0:al<0
   ·have HV:Hd (Hm m ⟨ab,al,az⟩=true):=hd (by rw[HOS.o,decide_eq_true h0,Bool.true_or]);refine Am 13 (JE _) (Ext []) (Bw [(9,Bv (.slice Av nv cv))]) (by kernel_rfl) (by kernel_rfl) JE.less ?_ JE.start ?_
    ·exact Ah.cons Bv.stays Ah.nil
    simp only[TK]
    repeat(refine dE (fun wr nr hJ=>by(have qx:=HB7.o.ext hJ (by simp);have qxc:=qx.cell;have qxl:=qx.lt;clear qx);clear hJ;exact CL) ?_;simp only[PT])
    iterate 8
     refine Ee rfl ?_
     simp only[PT]
    repeat(refine dE (fun wr nr hJ=>by clear hJ;exact CL) ?_;simp only[PT])
    refine Aa (fun w8 hJ hF=>?_)
    have HE8:=hd (HE7.o.trans hJ);clear hF hJ;go_wp2_with fail
    go_ret
    exact⟨Ai (by unfold Cg;rw[ijp (by rw[<-List.any_append];exact List.any_eq_true.2 ⟨_,ilm HX.o,HV.o⟩)]),HE8.o⟩
   ·have hd0:decide (al<0)=false:=decide_eq_false h0;have HV0:Hd (Hm m ⟨ab,al,az⟩=decide ((nv:Int)<at')):=hd (by rw[HOS.o,hd0,Bool.false_or,HAT.o];exact decide_eq_decide.2 (by omega));obtain⟨vb,hvb⟩:∃v,v=decide ((nv:Int)<at'):=⟨_,rfl⟩;have hgt:decide ((nv:Int)<at')=vb:=hvb.symm;rw[hgt] at HV0;clear hvb;refine Am 13 (JE _) (Ext []) (Bw [(9,Bv (.slice Av nv cv))]) (by kernel_rfl) (by kernel_rfl) JE.less ?_ JE.start ?_
    ·exact Ah.cons Bv.stays Ah.nil
    simp only[TK]
    repeat(refine dE (fun wr nr hJ=>by(have qx:=HB7.o.ext hJ (by simp);have qxc:=qx.cell;have qxl:=qx.lt;clear qx);clear hJ;exact CL) ?_;simp only[PT])
    refine Bj rfl rfl ?_ ?_
    ·apply Exists.intro
     apply Exists.intro
     refine⟨fun wr=>?_,fun wr nr hJ=>?_⟩
     ·go_simp
      first|exact⟨rfl,rfl⟩|rfl
     ·exact(by refine(HWD.o _ (HE7.o.trans hJ)).mono ?_;rintro e w' ⟨rfl,rfl⟩;exact⟨rfl,er⟩)
    simp only[PT]
    repeat(refine dE (fun wr nr hJ=>by(have qx:=HB7.o.ext hJ (by simp);have qxc:=qx.cell;have qxl:=qx.lt;clear qx);clear hJ;exact CL) ?_;simp only[PT])
    refine Aa (fun w8 hJ hF=>?_)
    have HE8:=hd (HE7.o.trans hJ);have HE8k:=hd (HE7k.o.trans hJ);clear hF hJ;cases vb
    ·go_wp2_with fail
     go_roundw
     case rel=>
      refine⟨k+1,by go_num,by omega,HE8k,hd (fun q y hq hqa=>?_)⟩
      rcases Nat.lt_or_ge q k with h1|h1
      ·exact HNO.o q y h1 hqa
      ·have:q=k:=by omega
       subst this;rw[HX.o] at hqa;cases hqa
       exact HV0.o
     case measure=>simp[intOf];omega
    ·go_wp2_with fail
     go_ret
     exact⟨Ai (by unfold Cg;rw[ijp (by rw[<-List.any_append];exact List.any_eq_true.2 ⟨_,ilm HX.o,HV0.o⟩)]),HE8.o⟩
  ·have hkn:k=n:=by omega
   subst hkn
   have HQ1:Hd ((rs.any (Hm m)||ws.any (Hm m))=false):=hd (by
    rw[<-List.any_append,List.any_eq_false];intro a ha;obtain⟨q,hq⟩:=List.getElem?_of_mem ha;have h1:=HNO.o q a (by have:=(ils hq).1;have:=HNN.o;omega) hq;rw[h1];decide)
   have HEs:=hd (HE1.o.trans HEk.o);clear HNO HRC;obtain⟨D,hD1,hD2,hD3,hD4⟩:=(HH.o.nil HEs.o).que.map;have q35:=(HH.o.nil HEs.o).cell (i:=35) (by omega) (v:=.map (some R.A.qb)) rfl;have ql:=(HH.o.nil HEs.o).lt;have HD3:=hd hD3;have HD4:=hd hD4;clear hD2 hD3 hD4
   go_wp2_with (
    at_range;refine wpList_range_own _ rfl _ 48 rfl 3 138 Td underlying48 _ R.A.qb 4 D rfl hD1 ?_
    intro w3 hrg3 hg3 hs3;have HE3:=hd (HEs.o.grown hg3 (fun q hq=>by cases hq));have HRG3:=hd hrg3;clear hg3 hs3 hrg3)
   clear hD1 q35 ql;go_frame
   obtain⟨rb,hrb⟩:∃rb,rb=wq.heap.size:=⟨_,rfl⟩;have hrbw:w.heap.size<=rb:=by rw[hrb];exact HEs.o.size
   rw[<-hrb] at HRG3⊢;clear hrb;have hrs0:w3.ranges prog 3 Xr R.A.qb rb 4 D (Maps.has D) (Maps.size D):=HRG3.o
   have HB3:Hd (∀(k:Int) (t:Tr),S.q k=some t->Jl rs ws t=true->Cg m S rs ws=3):=hd (fun k t ht hb=>by
    unfold Cg;rw[HQ1.o,ijn (by decide),if_pos];have hk:=HW.o.q _ _ ht;exact List.any_eq_true.2 ⟨k.toNat,List.mem_range.2 (by omega),by rw[Int.toNat_of_nonneg (by omega),ht];exact hb⟩)
   clear HRG3;go_loopw [41] (fun _ wr=>∃(left:Lit->Bool) (cnt:Nat),wr.ranges prog 3 Xr R.A.qb rb 4 D left cnt/\Hd (Ext [] w wr)/\Hd (∀q t,S.q q=some t->left (.int .i64 q)=false->Jl rs ws t=false)) (fun _ wr=>wr.rangeLeft R.A.qb rb)
   case atStart=>exact⟨_,_,hrs0,HE3,hd (fun q t hq hl=>by rw[HD3.o q] at hl;unfold tf at hl;rw[hq] at hl;cases hl)⟩
   case round=>
    obtain⟨left,cnt,hrg,HEr,HNO⟩:=hrel;clear hrs0 HE3 HEs HEk;rename World=>wk
    have HRG:=hd hrg;go_wp2_with (at_next;refine wpList_next_ranges _ rfl _ rfl 3 Td Xr (Value.int .i64) (fun v:Value=>v) (fun key kl hk=>by obtain⟨x,hx,_⟩:=Maps.keyOf_int_inv underlying3 hk;exact⟨x,hx⟩) (fun v y hv=>⟨v,rfl⟩) R.A.qb rb 4 D left cnt rfl hrg ?_ ?_)
    ·intro hc0 hl0;clear hrg HRG HB3
     have HB0:Hd (Cg m S rs ws=if rs.any (Gz S)=true then 2 else 0):=hd (by
      unfold Cg;rw[HQ1.o,ijn (by decide),if_neg];rw[Bool.not_eq_true,List.any_eq_false];intro j hj;rw[Bool.not_eq_true];cases hq:S.q (j:Nat) with
      | none=>rfl
      | some t=>exact HNO.o _ t hq (hl0 _))
     clear hl0 hc0;go_wp2_with fail
     go_loopw [62] (fun i wr=>∃j:Nat,i=.int .i64 j/\j<=lr/\Hd (∀(q:Nat) (a:Ar),q<j->rs[q]? = some a->Gz S a=false)/\Hd (Ext [] w wr)) (fun i _=>(lr-intOf i).toNat)
     case atStart=>exact⟨0,rfl,by omega,hd (fun q a hq=>absurd hq (by omega)),HEr⟩
     case round=>
      obtain⟨j,rfl,hj,HNU,HEs⟩:=hrel;rename World=>wl
      by_cases hlt:j<lr
      ·obtain⟨a,ha⟩:∃a,rs[j]? = some a:=⟨_,List.getElem?_eq_getElem (by have:=HLR.o;omega)⟩;obtain⟨b,o,rfl,hbl,h1,h2,h3⟩:=(HR.o.ext HEs.o (by simp)).at ha;have HX:=hd ha;have hin:a∈rs:=ilm ha;have hbk:=HAB.o a (List.mem_append_left _ hin)
       have hos:Hm m a=false:=by
        have h5:=HQ1.o;rw[Bool.or_eq_false_iff] at h5;have h6:=h5.1;rw[List.any_eq_false] at h6;simpa using h6 a hin
       have hos2:=Cq hos;obtain⟨ab,al,az⟩:=a;dsimp only at h1 h2 h3 hbk hos2;obtain⟨hbk,hs1,hs2,hs3,hs4⟩:=hbk;clear ha hin hos;obtain⟨at',hat⟩:∃x,x=al+az:=⟨_,rfl⟩;rw[<-hat] at h3;have HAT:=hd hat
       have hat0:at'<=8589934592:=by omega
       have hat1 : -8589934592<=at':=by omega
       clear hat
       go_upto_region 15 with fail
       have HB7:=hd (Blk.new wl 136 #[ab,al,at']);have HE7:=hd (HEs.o.alloc (.cells #[ab,al,at'] 136));clear h1 h2 h3;generalize wl.alloc (.cells #[ab,al,at'] 136)=w7 at *;generalize hwl:wl.heap.size=bl at *;rcases hbk with rfl|⟨hbk0,hbk1⟩
       ·refine Am 19 (JE _) (Ext []) (Bw []) (by kernel_rfl) (by kernel_rfl) JE.less ?_ JE.start ?_
        ·exact Ah.nil
        simp only[TK]
        repeat(refine dE (fun wr nr hJ=>by(have qx:=HB7.o.ext hJ (by simp);have qxc:=qx.cell;have qxl:=qx.lt;clear qx);clear hJ;exact CL) ?_;simp only[PT])
        iterate 14
         refine Ee rfl ?_
         simp only[PT]
        repeat(refine dE (fun wr nr hJ=>by clear hJ;exact CL) ?_;simp only[PT])
        refine Aa (fun w8 hJ hF=>?_)
        have HE8:=hd (HE7.o.trans hJ);clear hF hJ;go_wp2_with fail
        go_roundw
        case rel=>
         refine⟨j+1,by go_num,by omega,hd (fun q a hq hqa=>?_),HE8⟩
         rcases Nat.lt_or_ge q j with h1|h1
         ·exact HNU.o q a h1 hqa
         ·have:q=j:=by omega
          subst this;rw[HX.o] at hqa;cases hqa
          unfold Gz;rfl
        case measure=>simp[intOf];omega
       ·obtain⟨bk,rfl⟩:∃n:Nat,ab=n:=⟨ab.toNat,by omega⟩;obtain⟨lo,rfl⟩:∃n:Nat,al=n:=⟨al.toNat,by omega⟩;obtain⟨sz,rfl⟩:∃n:Nat,az=n:=⟨az.toNat,by omega⟩;obtain⟨hi,rfl⟩:∃n:Nat,at'=n:=⟨at'.toNat,by have:=HAT.o;omega⟩;have hsb:Bn m (bk:Nat)=m.bank:=by unfold Bn;rw[ijn (by omega)]
        rw[hsb] at hos2;obtain⟨NB,hNB⟩:∃n,m.banks.toNat=n:=⟨_,rfl⟩;obtain⟨NK,hNK⟩:∃n,m.bank.toNat=n:=⟨_,rfl⟩;have HNB:=hd hNB;have HNK:=hd hNK;have hbkN:bk<NB:=by omega
        have hbkI:((bk:Nat):Int)<(NB:Int):=by omega
        have hhi:hi=lo+sz:=by have:=HAT.o;omega
        have hloK:hi<=NK:=by omega
        have hloL:lo<NK:=by omega
        have hloN:NK≠lo:=by omega
        have hNK4:NK<=4096:=by omega
        have hsz1:1<=sz:=by omega
        have hz1:(0:Int)<=(hi:Int):=by omega
        have hz2:(hi:Int)<=(NK:Int):=by omega
        have hz3:lo<=hi:=by omega
        have hz4:hi-lo=sz:=by omega
        have hz5:(lo:Int)<=(hi:Int):=by omega
        have hbg:decide ((0:Int)<=(bk:Nat))=true:=decide_eq_true (by omega);have HHI:=hd hhi;clear hNB hNK hsb hos2 hbk0 hbk1 hm hhi hat0 hat1
        have HRT:Hd (∀W,Ext [] w7 W->RdT W (R.A.sb bk) lo sz (fun i=>S.set (bk:Nat) ((lo:Int)+(i:Nat)))):=hd (fun W hW i hi=>by
         have h1:=((HH.o.nil (HE7.o.trans hW)).mem.set bk (by rw[HNB.o];exact hbkN)).cell (i:=lo+i) (by rw[HNK.o];have:=HHI.o;omega);rw[h1];congr 2)
        obtain⟨ub,hub⟩:∃v,v=((List.range sz).map (fun i=>S.set (bk:Nat) ((lo:Int)+(i:Nat)))).contains false:=⟨_,rfl⟩
        have HUS:Hd (Gz S ⟨(bk:Nat),(lo:Nat),(sz:Nat)⟩=ub):=hd (by
         rw[hub];unfold Gz;rw[decide_eq_true (show(0:Int)<=(bk:Nat) by omega),Bool.true_and];dsimp only;rw[Int.toNat_natCast])
        have HUB:=hd hub;clear hub;refine Am 19 (JE _) (Ext []) (Bw [(17,Bv (.bool ub))]) (by kernel_rfl) (by kernel_rfl) JE.less ?_ JE.start ?_
        ·exact Ah.cons Bv.stays Ah.nil
        simp only[TK]
        repeat(refine dE (fun wr nr hJ=>by(have qx:=HB7.o.ext hJ (by simp);have qxc:=qx.cell;have qxl:=qx.lt;clear qx;have hC:=HH.o.nil (HE7.o.trans hJ);have q34:=hC.cell (i:=34) (by omega) (v:=.slice (some R.A.so) m.banks.toNat R.A.scap) rfl;rw[HNB.o] at q34;have qs:=hC.stat.sets.cell (i:=bk) (by rw[HNB.o];exact hbkN);rw[HNK.o] at qs;have ql:=hC.lt;have qsl:=hC.stat.sets.lt;clear hC);clear hJ;exact CL) ?_;simp only[PT])
        refine Bj rfl rfl ?_ ?_
        ·apply Exists.intro
         apply Exists.intro
         refine⟨fun wr=>?_,fun wr nr hJ=>?_⟩
         ·go_simp
          first|exact⟨rfl,rfl⟩|rfl
         ·exact(by refine(Ki (R.A.sb bk) lo sz (NK-lo) _ wr (HRT.o wr hJ) (by omega) ((HH.o.nil (HE7.o.trans hJ)).mem.set bk (by rw[HNB.o];exact hbkN)).lt).mono ?_;rintro e w' ⟨rfl,hE⟩;exact⟨by rw[HUB.o],hE⟩)
        simp only[PT]
        repeat(refine dE (fun wr nr hJ=>by clear hJ;exact CL) ?_;simp only[PT])
        refine Aa (fun w8 hJ hF=>?_)
        have HE8:=hd (HE7.o.trans hJ);clear hF hJ;cases ub
        ·go_wp2_with fail
         go_roundw
         case rel=>
          refine⟨j+1,by go_num,by omega,hd (fun q a hq hqa=>?_),HE8⟩
          rcases Nat.lt_or_ge q j with h1|h1
          ·exact HNU.o q a h1 hqa
          ·have:q=j:=by omega
           subst this;rw[HX.o] at hqa;cases hqa
           exact HUS.o
         case measure=>simp[intOf];omega
        ·have hun:rs.any (Gz S)=true:=List.any_eq_true.2 ⟨_,ilm HX.o,HUS.o⟩;have HUN:=hd hun;clear hun;go_wp2_with fail
         go_ret
         exact⟨Ai (by rw[HB0.o,HUN.o];rfl),HE8.o⟩
      ·have hjr:j=lr:=by omega
       subst hjr
       have hun:rs.any (Gz S)=false:=by
        rw[List.any_eq_false];intro a ha;obtain⟨q,hq⟩:=List.getElem?_of_mem ha;have h1:=HNU.o q a (by have:=(ils hq).1;have:=HLR.o;omega) hq;rw[h1];decide
       have HUN:=hd hun;clear hun;go_wp2_with fail
       go_ret
       exact⟨Ai (by rw[HB0.o,HUN.o];rfl),HEs.o⟩
    ·intro x c kl y1 y2 w2 cnt2 hkey hlk hv hat hrg2 hlt hg2 hs2 hen;obtain⟨x',ex,rfl,hwx⟩:=Maps.keyOf_int_inv underlying3 hkey;cases ex
     cases hv
     have hhas:Maps.has D (.int .i64 x)=true:=by
      cases hh:Maps.has D (.int .i64 x) with
      | true=>rfl
      | false=>
       have h1:=hat (.lit (.int .i64 0));rw[Maps.atKey_of_not_has hh] at h1;cases h1
     rw[HD3.o x] at hhas
     obtain⟨t,hq⟩:∃t,S.q x=some t:=by
      unfold tf at hhas;cases hq:S.q x with
      | none=>rw[hq] at hhas;cases hhas
      | some t=>exact⟨t,rfl⟩
     have hct:c=Nb t (R.A.ta x) (R.A.tc x):=by
      have h1:=HD4.o x (Nb t (R.A.ta x) (R.A.tc x)) (by unfold tf;rw[hq];rfl) (.lit (.int .i64 0));rw[hat] at h1;cases h1;rfl
     subst hct;have HQK:=hd hq;have HEg:=hd (HEr.o.grown hg2 (fun q hq=>.inr (by cases hq;exact hrbw)));have HRG2:=hd hrg2;have HLT:=hd hlt;clear hkey hlk hat hrg2 hlt hg2 hs2 hhas hq hwx hrg;obtain⟨⟨sb,sl,ss⟩,⟨db,dl,ds⟩,twords,trdy⟩:=t;obtain⟨dt,hdt⟩:∃x,x=dl+ds:=⟨_,rfl⟩;obtain⟨st',hst⟩:∃x,x=sl+ss:=⟨_,rfl⟩;have HMD:=hd (fun(W:World) (A:Option Addr) (l:List Ar) (n c:Nat) (hr:RdB W A l) (hln:l.length=n) (hn:n<=100)=>Po db dl dt (fun y=>(Ar.mk db dl ds).meets y) A n c l W (fun a _ W' _=>by rw[hdt];exact Ro ⟨db,dl,ds⟩ a W') hr hln hn);have HMS:=hd (fun(W:World) (A:Option Addr) (l:List Ar) (n c:Nat) (hr:RdB W A l) (hln:l.length=n) (hn:n<=100)=>Po sb sl st' (fun y=>(Ar.mk sb sl ss).meets y) A n c l W (fun a _ W' _=>by rw[hst];exact Ro ⟨sb,sl,ss⟩ a W') hr hln hn);dsimp only[Nb] at *;simp only[<-hdt,<-hst] at *;clear hdt hst;go_upto_region 10 with fail
     have HX7:=hd (Blk.new w2 138 #[sb,sl,st',db,dl,dt,.slice (R.A.ta x) twords.length (R.A.tc x),trdy]);have HE7:=hd (HEg.o.alloc (.cells #[sb,sl,st',db,dl,dt,.slice (R.A.ta x) twords.length (R.A.tc x),trdy] 138));have HEm:=hd ((Ext.refl [] w2).alloc (.cells #[sb,sl,st',db,dl,dt,.slice (R.A.ta x) twords.length (R.A.tc x),trdy] 138));generalize w2.alloc (.cells #[sb,sl,st',db,dl,dt,.slice (R.A.ta x) twords.length (R.A.tc x),trdy] 138)=w7 at *;generalize hwl:w2.heap.size=bt at *;cases hp:(rs ++ ws).any (fun y=>(Ar.mk db dl ds).meets y)
     ·have HP:=hd hp;clear hp;obtain⟨vb,hvb⟩:∃v,v=ws.any (fun y=>(Ar.mk sb sl ss).meets y):=⟨_,rfl⟩;have HVB:=hd hvb;clear hvb;refine Am 15 (JE _) (Ext []) (Bw [(2,Ru Ra lr cr Wa lw cw),(3,Rv (rs ++ ws) k),(7,Bv (.bool false)),(13,Bv (.bool vb))]) (by kernel_rfl) (by kernel_rfl) JE.less ?_ JE.start ?_
      ·exact Ah.cons Ru.stays (Ah.cons Rv.stays (Ah.cons Bv.stays (Ah.cons Bv.stays Ah.nil)))
      simp only[TK]
      repeat(refine dE (fun wr nr hJ=>by(have qx:=HX7.o.ext hJ (by simp);have qxc:=qx.cell;have qxl:=qx.lt;clear qx);clear hJ;exact CL) ?_;simp only[PT])
      refine Dh (Ru Ra lr cr Wa lw cw) rfl rfl (fun wr nr hJ _=>?_) ?_
      ·refine⟨wr.heap.size,wr.alloc (.cells #[.slice Ra lr cr,.slice Wa lw cw] 95),?_,⟨(Blk.new _ _ _).cell 0,(Blk.new _ _ _).cell 1⟩,Ext.trans hJ (er.alloc _),er.alloc _⟩
       clear hJ;go_simp
       first|rfl|exact⟨rfl,rfl⟩
      intro (b2:Nat);simp only[PT];dsimp only[Ru];refine Ey (Rv (rs ++ ws) k) rfl rfl ?_ ?_
      ·apply Exists.intro
       apply Exists.intro
       refine⟨fun wr=>?_,fun wr nr hJ hf=>?_⟩
       ·go_simp
        first|exact⟨rfl,rfl⟩|rfl
       ·have h2:wr.cell? ⟨b2,0,none⟩=some (.slice Ra lr cr)/\wr.cell? ⟨b2,1,none⟩=some (.slice Wa lw cw):=Cm hf 2 (by kernel_rfl);refine(Me b2 2 lr cr lw cw Ra Wa rs ws _ h2.1 h2.2 (HR.o.ext (HE7.o.trans hJ) (by simp)) (HWs.o.ext (HE7.o.trans hJ) (by simp)) HLR.o HLW.o HS1.o HS2.o ⟨hl1,hl2⟩).mono ?_
        rintro e w' ⟨A,c,rfl,hE,hr⟩;exact⟨(A,c),by rw[HNN.o];rfl,hr,Ext.trans hJ hE,hE⟩
      intro (u3:Option Addr×Nat);simp only[PT];dsimp only[Rv]
      repeat(refine dE (fun wr nr hJ=>by(have qx:=HX7.o.ext hJ (by simp);have qxc:=qx.cell;have qxl:=qx.lt;clear qx);clear hJ;exact CL) ?_;simp only[PT])
      refine Ey (Bv (.bool false)) rfl rfl ?_ ?_
      ·apply Exists.intro
       apply Exists.intro
       refine⟨fun wr=>?_,fun wr nr hJ hf=>?_⟩
       ·go_simp
        first|exact⟨rfl,rfl⟩|rfl
       ·have h3:RdB wr u3.1 (rs ++ ws):=Cm hf 3 (by kernel_rfl);refine(HMD.o wr u3.1 (rs ++ ws) k u3.2 h3 HNN.o.symm (by omega)).mono ?_
        rintro e w' ⟨rfl,hE⟩;exact⟨(),by rw[HP.o];rfl,trivial,Ext.trans hJ hE,hE⟩
      intro (u7:Unit);simp only[PT];dsimp only[Bv]
      repeat(refine dE (fun wr nr hJ=>by(have qx:=HX7.o.ext hJ (by simp);have qxc:=qx.cell;have qxl:=qx.lt;clear qx);clear hJ;exact CL) ?_;simp only[PT])
      refine Ey (Bv (.bool vb)) rfl rfl ?_ ?_
      ·apply Exists.intro
       apply Exists.intro
       refine⟨fun wr=>?_,fun wr nr hJ hf=>?_⟩
       ·go_simp
        first|exact⟨rfl,rfl⟩|rfl
       ·refine(HMS.o wr Wa ws lw cw (HWs.o.ext (HE7.o.trans hJ) (by simp)) HLW.o (by omega)).mono ?_
        rintro e w' ⟨rfl,hE⟩;exact⟨(),by rw[HVB.o];rfl,trivial,Ext.trans hJ hE,hE⟩
      intro (u13:Unit);simp only[PT];dsimp only[Bv]
      repeat(refine dE (fun wr nr hJ=>by(have qx:=HX7.o.ext hJ (by simp);have qxc:=qx.cell;have qxl:=qx.lt;clear qx);clear hJ;exact CL) ?_;simp only[PT])
      refine Aa (fun w8 hJ hF=>?_)
      have HE8:=hd (HE7.o.trans hJ);have HEm8:=hd (HEm.o.trans hJ);clear hF hJ;cases vb
      ·go_wp2_with fail
       go_roundw
       case rel=>
        refine⟨_,cnt2,Rt HRG2.o HEm8.o (by simp) (by simp),HE8,hd (fun q t' hq' hl'=>?_)⟩
        cases hlq:left (.int .i64 q) with
        | false=>exact HNO.o q t' hq' hlq
        | true=>
         rw[hlq] at hl';have hqx:q=x:=by simpa[Lit.sameKey] using hl'
         subst hqx;rw[HQK.o] at hq';cases hq'
         unfold Jl;rw[<-List.any_append];dsimp only;rw[HP.o,<-HVB.o];rfl
       case measure=>rw[(Rt HRG2.o HEm8.o (by simp) (by simp)).left_eq,HRG.o.left_eq];exact HLT.o
      ·go_wp2_with fail
       go_ret
       exact⟨Ai (HB3.o x _ HQK.o (by unfold Jl;rw[<-List.any_append];dsimp only;rw[HP.o,<-HVB.o];rfl)).symm,HE8.o⟩
     ·have HP:=hd hp;clear hp;refine Am 15 (JE _) (Ext []) (Bw [(2,Ru Ra lr cr Wa lw cw),(3,Rv (rs ++ ws) k),(7,Bv (.bool true))]) (by kernel_rfl) (by kernel_rfl) JE.less ?_ JE.start ?_
      ·exact Ah.cons Ru.stays (Ah.cons Rv.stays (Ah.cons Bv.stays Ah.nil))
      simp only[TK]
      repeat(refine dE (fun wr nr hJ=>by(have qx:=HX7.o.ext hJ (by simp);have qxc:=qx.cell;have qxl:=qx.lt;clear qx);clear hJ;exact CL) ?_;simp only[PT])
      refine Dh (Ru Ra lr cr Wa lw cw) rfl rfl (fun wr nr hJ _=>?_) ?_
      ·refine⟨wr.heap.size,wr.alloc (.cells #[.slice Ra lr cr,.slice Wa lw cw] 95),?_,⟨(Blk.new _ _ _).cell 0,(Blk.new _ _ _).cell 1⟩,Ext.trans hJ (er.alloc _),er.alloc _⟩
       clear hJ;go_simp
       first|rfl|exact⟨rfl,rfl⟩
      intro (b2:Nat);simp only[PT];dsimp only[Ru];refine Ey (Rv (rs ++ ws) k) rfl rfl ?_ ?_
      ·apply Exists.intro
       apply Exists.intro
       refine⟨fun wr=>?_,fun wr nr hJ hf=>?_⟩
       ·go_simp
        first|exact⟨rfl,rfl⟩|rfl
       ·have h2:wr.cell? ⟨b2,0,none⟩=some (.slice Ra lr cr)/\wr.cell? ⟨b2,1,none⟩=some (.slice Wa lw cw):=Cm hf 2 (by kernel_rfl);refine(Me b2 2 lr cr lw cw Ra Wa rs ws _ h2.1 h2.2 (HR.o.ext (HE7.o.trans hJ) (by simp)) (HWs.o.ext (HE7.o.trans hJ) (by simp)) HLR.o HLW.o HS1.o HS2.o ⟨hl1,hl2⟩).mono ?_
        rintro e w' ⟨A,c,rfl,hE,hr⟩;exact⟨(A,c),by rw[HNN.o];rfl,hr,Ext.trans hJ hE,hE⟩
      intro (u3:Option Addr×Nat);simp only[PT];dsimp only[Rv]
      repeat(refine dE (fun wr nr hJ=>by(have qx:=HX7.o.ext hJ (by simp);have qxc:=qx.cell;have qxl:=qx.lt;clear qx);clear hJ;exact CL) ?_;simp only[PT])
      refine Ey (Bv (.bool true)) rfl rfl ?_ ?_
      ·apply Exists.intro
       apply Exists.intro
       refine⟨fun wr=>?_,fun wr nr hJ hf=>?_⟩
       ·go_simp
        first|exact⟨rfl,rfl⟩|rfl
       ·have h3:RdB wr u3.1 (rs ++ ws):=Cm hf 3 (by kernel_rfl);refine(HMD.o wr u3.1 (rs ++ ws) k u3.2 h3 HNN.o.symm (by omega)).mono ?_
        rintro e w' ⟨rfl,hE⟩;exact⟨(),by rw[HP.o];rfl,trivial,Ext.trans hJ hE,hE⟩
      intro (u7:Unit);simp only[PT];dsimp only[Bv]
      repeat(refine dE (fun wr nr hJ=>by(have qx:=HX7.o.ext hJ (by simp);have qxc:=qx.cell;have qxl:=qx.lt;clear qx);clear hJ;exact CL) ?_;simp only[PT])
      iterate 5
       refine Ee rfl ?_
       simp only[PT]
      repeat(refine dE (fun wr nr hJ=>by clear hJ;exact CL) ?_;simp only[PT])
      refine Aa (fun w8 hJ hF=>?_)
      have HE8:=hd (HE7.o.trans hJ);clear hF hJ;go_wp2_with fail
      go_ret
      exact⟨Ai (HB3.o x _ HQK.o (by unfold Jl;rw[<-List.any_append];dsimp only;rw[HP.o];rfl)).symm,HE8.o⟩
end
end Go.Proofs.YtkgmhggliifkjaaGreat
