import Derived.Test.YtkgmhggliifkjaaGreatP13
import Derived.RegionTactic
import Derived.BigRegion
namespace Go.Proofs.YtkgmhggliifkjaaGreat
open Go.RowKit Go.Proofs.Tryz
set_option linter.all false
set_option maxHeartbeats 8000000
set_option maxRecDepth 100000
attribute [local irreducible] Ax
def sAn (B:Nat)(x y z:Int):Bo:=⟨Nat,0,fun b=>.slice (some ⟨b,0,none⟩) 1 1,fun b w=>Blk w b 91 #[x,y,z]/\B<=b⟩
theorem sAn.stays {B:Nat}{x y z:Int}:∀u w w',RH [] w w'->(sAn B x y z).V u w->(sAn B x y z).V u w':=fun _ _ _ hR h=>⟨Blk.ext h.1 hR.1 List.not_mem_nil,h.2⟩
def T18 (w:World)(X:Array Value)(a0 a1 a2 c0 c1 c2:Int)(s8 s9:Value)(wx:World):Prop:=
 ∃b8 b9:Nat,s8=.pointer (some b8)/\s9=.pointer (some b9)/\b8≠b9/\w.heap.size<b8/\w.heap.size<b9/\Blk wx b8 91 #[a0,a1,a2]/\Blk wx b9 91 #[c0,c1,c2]/\Ext [] w wx/\Blk wx w.heap.size 76 X
theorem T18.first {w w1:World}{X:Array Value}{a0 a1 a2 c0 c1 c2:Int}(hE:Ext [] w w1)(hX:Blk w1 w.heap.size 76 X):T18 w X a0 a1 a2 c0 c1 c2 (.pointer (some w1.heap.size)) (.pointer (some ⟨w1.heap.size+1,0,none⟩)) (((w1.alloc (.cells #[a0,a1,a2] 91)).alloc (.cells #[c0,c1,c2] 91)).drew):=by
 have hl:=hX.lt;exact⟨_,_,rfl,rfl,by omega,by omega,by omega,((Blk.new w1 _ _).alloc _).drew,(Blk.new' (w1.alloc _) _ _ (w1.heap.size+1) (by simp)).drew,((hE.alloc _).alloc _).drew,((hX.alloc _).alloc _).drew⟩
theorem T18.second {w w1:World}{X:Array Value}{a0 a1 a2 c0 c1 c2:Int}(hE:Ext [] w w1)(hX:Blk w1 w.heap.size 76 X):T18 w X a0 a1 a2 c0 c1 c2 (.pointer (some ⟨w1.heap.size+1,0,none⟩)) (.pointer (some w1.heap.size)) (((w1.alloc (.cells #[c0,c1,c2] 91)).alloc (.cells #[a0,a1,a2] 91)).drew):=by
 have hl:=hX.lt;exact⟨_,_,rfl,rfl,by omega,by omega,by omega,(Blk.new' (w1.alloc _) _ _ (w1.heap.size+1) (by simp)).drew,((Blk.new w1 _ _).alloc _).drew,((hE.alloc _).alloc _).drew,((hX.alloc _).alloc _).drew⟩
theorem Aaa {w:World}{A:CA}{m:Mc}{xs:List Ins}{S:MS}(xk xd xc xp xn xm:Int)(a b:Nat)(h:Jx w A m xs S a b xn xm)(hk:xk=1\/xk=2) :
  Calls prog 75 #[.pointer (some A.c),.agg #[(18:Int),xk,xd,a,b,xc,xp,xn,xm]] w (Hr m S ⟨18,xk,xd,a,b,xc,xp,xn,xm⟩ w):=by
 have HH:=hd h;have ha:=h.a;have hb:=h.b;have hn:=h.n;have hmm:=h.mm;have hr:=h.wf.r (a:Nat);have hr2:=h.wf.r (b:Nat);have hmc:=Bc h.chip.kd.ok;unfold isW at hn hmm hr hr2;obtain⟨hn0,hn1⟩:=hn;obtain⟨hm0,hm1⟩:=hmm;obtain⟨hr0,hr1⟩:=hr;obtain⟨hs0,hs1⟩:=hr2;have hb15:=Of a ha;have haZ:((a:Nat):Int)<16:=by omega
 have hbZ:((b:Nat):Int)<16:=by omega
 clear h;go_enter func75,ntmps75
 go_wp2_with fail
 refine rgE 10 [] ?_
 simp only[TK]
 repeat(refine dE (fun wr nr hJ=>by(have hC:=HH.o.chip.nil (((Ext.refl [] w).alloc _).trans hJ);have q10:=hC.reg ha;have ql:=hC.lt;have qx:=((Blk.new w 76 #[(18:Int),xk,xd,a,b,xc,xp,xn,xm]).ext hJ (by simp));have qxc:=qx.cell;have qxl:=qx.lt;clear qx hC);clear hJ;exact CL) ?_;simp only[PT])
 refine Aa (fun w1 hJ hF=>?_)
 have HX1:=hd ((Blk.new w 76 #[(18:Int),xk,xd,a,b,xc,xp,xn,xm]).ext hJ (by simp));have HE:=hd (((Ext.refl [] w).alloc (.cells #[(18:Int),xk,xd,a,b,xc,xp,xn,xm] 76)).trans hJ);have qxc:=HX1.o.cell;have qxl:=HX1.o.lt;have hww:=HE.o.size;clear hF hJ hb15;go_wp2_with fail
 clear qxc qxl;have hC:=HH.o.chip.nil HE.o;have q10:=hC.reg hb;have ql:=hC.lt;have qxc:=HX1.o.cell;have qxl:=HX1.o.lt;clear hC;clear q10 ql qxc qxl;go_upto_region 23 with fail
 go_cut [8,9] (fun s8 s9 wx=>T18 w #[(18:Int),xk,xd,a,b,xc,xp,xn,xm] (-1) (S.r (a:Nat)+xn) xm xc (S.r (b:Nat)) xm s8 s9 wx)
 case first=>
  have hC:=HH.o.chip.nil HE.o;have q10:=hC.reg hb;have ql:=hC.lt;have qxc:=HX1.o.cell;have qxl:=HX1.o.lt;clear hC;go_region
  ·first
    | (go_wp2_with fail;go_meet;exact T18.first HE.o HX1.o)
    | (go_wp2;go_meet;exact T18.first HE.o HX1.o)
  ·first
    | (go_wp2_with fail;go_meet;exact T18.second HE.o HX1.o)
    | (go_wp2;go_meet;exact T18.second HE.o HX1.o)
 case rest=>
  obtain⟨b8,b9,rfl,rfl,hne,h8,h9,hB8,hB9,hE3,hX3⟩:=hcut;have HB8:=hd hB8;have HB9:=hd hB9;have HE3:=hd hE3;have HX3:=hd hX3;clear hB8 hB9 hE3 hX3;have qxc:=HX3.o.cell;have qxl:=HX3.o.lt;rcases hk with rfl|rfl
  ·go_wp2_with fail
   refine rgH 5 [(1,sAn wc.heap.size (-1) (S.r (a:Nat)+xn) (xm)),(3,sAn wc.heap.size (xc) (S.r (b:Nat)) (xm))] ?_ ?_
   ·exact Ah.cons sAn.stays (Ah.cons sAn.stays Ah.nil)
   simp only[TK]
   repeat(refine dE (fun wr nr hJ=>by(have qa:=HB8.o.ext hJ.1 (by simp);have qac:=qa.cell;have qal:=qa.lt;have qb:=HB9.o.ext hJ.1 (by simp);have qbc:=qb.cell;have qbl:=qb.lt;clear qa qb);clear hJ;exact CL) ?_;simp only[PT])
   refine Ct (sAn wc.heap.size (-1) (S.r (a:Nat)+xn) (xm)) rfl rfl ?_ ?_
   ·intro wr nr hJ hf;refine⟨wr.heap.size,.cells #[.int .i64 (-1),.int .i64 (S.r (a:Nat)+xn),(xm)] 91,?_,Blk.new _ _ _,by have:=hJ.1.size;exact this⟩
    clear hJ hf;go_simp
    first|rfl|exact⟨rfl,rfl⟩
   intro (b1:Nat);simp only[PT];dsimp only[sAn]
   repeat(refine dE (fun wr nr hJ=>by(have qa:=HB8.o.ext hJ.1 (by simp);have qac:=qa.cell;have qal:=qa.lt;have qb:=HB9.o.ext hJ.1 (by simp);have qbc:=qb.cell;have qbl:=qb.lt;clear qa qb);clear hJ;exact CL) ?_;simp only[PT])
   refine Ct (sAn wc.heap.size (xc) (S.r (b:Nat)) (xm)) rfl rfl ?_ ?_
   ·intro wr nr hJ hf;refine⟨wr.heap.size,.cells #[(xc),.int .i64 (S.r (b:Nat)),(xm)] 91,?_,Blk.new _ _ _,by have:=hJ.1.size;exact this⟩
    clear hJ hf;go_simp
    first|rfl|exact⟨rfl,rfl⟩
   intro (b2:Nat);simp only[PT];dsimp only[sAn]
   repeat(refine dE (fun wr nr hJ=>by clear hJ;exact CL) ?_;simp only[PT])
   refine Aa (fun w6 hJ hF=>?_)
   have hb1:Blk w6 b1 91 #[.int .i64 (-1),.int .i64 (S.r (a:Nat)+xn),(xm)]/\wc.heap.size<=b1:=hF 1;have hb2:Blk w6 b2 91 #[(xc),.int .i64 (S.r (b:Nat)),(xm)]/\wc.heap.size<=b2:=hF 3;have hww:=HE3.o.size;have HB1:=hd hb1.1;have HB2:=hd hb2.1;have hl1:w.heap.size<=b1:=by have:=hb1.2;omega
   have hl2:w.heap.size<=b2:=by have:=hb2.2;omega
   have HE6:=hd (HE3.o.trans hJ.1);have er:Ae m S ⟨18,1,xd,a,b,xc,xp,xn,xm⟩=[⟨-1,S.r (a:Nat)+xn,xm⟩]:=by simp[Ae]
   have ew:Ab m S ⟨18,1,xd,a,b,xc,xp,xn,xm⟩=[⟨xc,S.r (b:Nat),xm⟩]:=by simp[Ab]
   have HER:=hd er;have HEW:=hd ew;clear hF hJ hb1 hb2 er ew;go_wp2_with fail
   go_ret2
   exact⟨_,1,1,_,1,1,rfl,by rw[HER.o];rfl,by rw[HEW.o];rfl,HE6.o,by rw[HER.o];exact RdA.one HB1.o rfl rfl rfl,by rw[HEW.o];exact RdA.one HB2.o rfl rfl rfl,fun y hy=>by cases hy;exact hl1,fun y hy=>by cases hy;exact hl2⟩
  ·have hgb8:w.heap.size<=b8:=by omega
   have hgb9:w.heap.size<=b9:=by omega
   have hB8':Blk (((wc.setCell ⟨b8,0,none⟩ (.int .i64 (xc))).setCell ⟨b8,1,none⟩ (.int .i64 (S.r (b:Nat)))).setCell ⟨b8,2,none⟩ (.int .i64 (xm))) b8 91 #[(xc),.int .i64 (S.r (b:Nat)),(xm)]:=((HB8.o.set_' 0 (.int .i64 (xc)) #[(xc),.int .i64 (S.r (a:Nat)+xn),(xm)] rfl).set_' 1 (.int .i64 (S.r (b:Nat))) #[(xc),.int .i64 (S.r (b:Nat)),(xm)] rfl).set_' 2 (.int .i64 (xm)) _ rfl;have hB9':Blk (((wc.setCell ⟨b8,0,none⟩ (.int .i64 (xc))).setCell ⟨b8,1,none⟩ (.int .i64 (S.r (b:Nat)))).setCell ⟨b8,2,none⟩ (.int .i64 (xm))) b9 91 #[(xc),.int .i64 (S.r (b:Nat)),(xm)]:=(((HB9.o.far (p:=⟨b8,0,none⟩) (show b9≠b8 by omega) (.int .i64 (xc))).far (p:=⟨b8,1,none⟩) (show b9≠b8 by omega) (.int .i64 (S.r (b:Nat)))).far (p:=⟨b8,2,none⟩) (show b9≠b8 by omega) (.int .i64 (xm)));have HB8':Hd (Blk ((((((wc.setCell ⟨b8,0,none⟩ (.int .i64 (xc))).setCell ⟨b8,1,none⟩ (.int .i64 (S.r (b:Nat)))).setCell ⟨b8,2,none⟩ (.int .i64 (xm))).setCell ⟨b9,0,none⟩ (.int .i64 (-1))).setCell ⟨b9,1,none⟩ (.int .i64 (S.r (a:Nat)+xn))).setCell ⟨b9,2,none⟩ (.int .i64 (xm))) b8 91 #[(xc),.int .i64 (S.r (b:Nat)),(xm)]):=hd (((hB8'.far (p:=⟨b9,0,none⟩) (show b8≠b9 by omega) (.int .i64 (-1))).far (p:=⟨b9,1,none⟩) (show b8≠b9 by omega) (.int .i64 (S.r (a:Nat)+xn))).far (p:=⟨b9,2,none⟩) (show b8≠b9 by omega) (.int .i64 (xm)));have HB9':Hd (Blk ((((((wc.setCell ⟨b8,0,none⟩ (.int .i64 (xc))).setCell ⟨b8,1,none⟩ (.int .i64 (S.r (b:Nat)))).setCell ⟨b8,2,none⟩ (.int .i64 (xm))).setCell ⟨b9,0,none⟩ (.int .i64 (-1))).setCell ⟨b9,1,none⟩ (.int .i64 (S.r (a:Nat)+xn))).setCell ⟨b9,2,none⟩ (.int .i64 (xm))) b9 91 #[.int .i64 (-1),.int .i64 (S.r (a:Nat)+xn),(xm)]):=hd (((hB9'.set_' 0 (.int .i64 (-1)) #[.int .i64 (-1),.int .i64 (S.r (b:Nat)),(xm)] rfl).set_' 1 (.int .i64 (S.r (a:Nat)+xn)) #[.int .i64 (-1),.int .i64 (S.r (a:Nat)+xn),(xm)] rfl).set_' 2 (.int .i64 (xm)) _ rfl);have HE3':Hd (Ext [] w ((((((wc.setCell ⟨b8,0,none⟩ (.int .i64 (xc))).setCell ⟨b8,1,none⟩ (.int .i64 (S.r (b:Nat)))).setCell ⟨b8,2,none⟩ (.int .i64 (xm))).setCell ⟨b9,0,none⟩ (.int .i64 (-1))).setCell ⟨b9,1,none⟩ (.int .i64 (S.r (a:Nat)+xn))).setCell ⟨b9,2,none⟩ (.int .i64 (xm)))):=hd (Ext.setAt (.inr hgb9) (Ext.setAt (.inr hgb9) (Ext.setAt (.inr hgb9) (Ext.setAt (.inr hgb8) (Ext.setAt (.inr hgb8) (Ext.setAt (.inr hgb8) HE3.o))))));clear hB8' hB9';have q8c:=HB8.o.cell;have q9c:=HB9.o.cell;have q8f:=HB8.o.frozen;have q9f:=HB9.o.frozen;have q8l:=HB8.o.lt;have q9l:=HB9.o.lt;go_upto_region 25 with fail
   clear q8c q9c q8f q9f q8l q9l qxc qxl HB8 HB9 HE3;generalize ((((((wc.setCell ⟨b8,0,none⟩ (.int .i64 (xc))).setCell ⟨b8,1,none⟩ (.int .i64 (S.r (b:Nat)))).setCell ⟨b8,2,none⟩ (.int .i64 (xm))).setCell ⟨b9,0,none⟩ (.int .i64 (-1))).setCell ⟨b9,1,none⟩ (.int .i64 (S.r (a:Nat)+xn))).setCell ⟨b9,2,none⟩ (.int .i64 (xm)))=w7 at *;have HB8:=HB8';have HB9:=HB9';have HE3:=HE3';clear HB8' HB9' HE3';refine rgH 5 [(1,sAn w7.heap.size (xc) (S.r (b:Nat)) (xm)),(3,sAn w7.heap.size (-1) (S.r (a:Nat)+xn) (xm))] ?_ ?_
   ·exact Ah.cons sAn.stays (Ah.cons sAn.stays Ah.nil)
   simp only[TK]
   repeat(refine dE (fun wr nr hJ=>by(have qa:=HB8.o.ext hJ.1 (by simp);have qac:=qa.cell;have qal:=qa.lt;have qb:=HB9.o.ext hJ.1 (by simp);have qbc:=qb.cell;have qbl:=qb.lt;clear qa qb);clear hJ;exact CL) ?_;simp only[PT])
   refine Ct (sAn w7.heap.size (xc) (S.r (b:Nat)) (xm)) rfl rfl ?_ ?_
   ·intro wr nr hJ hf;refine⟨wr.heap.size,.cells #[(xc),.int .i64 (S.r (b:Nat)),(xm)] 91,?_,Blk.new _ _ _,by have:=hJ.1.size;exact this⟩
    clear hJ hf;go_simp
    first|rfl|exact⟨rfl,rfl⟩
   intro (b1:Nat);simp only[PT];dsimp only[sAn]
   repeat(refine dE (fun wr nr hJ=>by(have qa:=HB8.o.ext hJ.1 (by simp);have qac:=qa.cell;have qal:=qa.lt;have qb:=HB9.o.ext hJ.1 (by simp);have qbc:=qb.cell;have qbl:=qb.lt;clear qa qb);clear hJ;exact CL) ?_;simp only[PT])
   refine Ct (sAn w7.heap.size (-1) (S.r (a:Nat)+xn) (xm)) rfl rfl ?_ ?_
   ·intro wr nr hJ hf;refine⟨wr.heap.size,.cells #[.int .i64 (-1),.int .i64 (S.r (a:Nat)+xn),(xm)] 91,?_,Blk.new _ _ _,by have:=hJ.1.size;exact this⟩
    clear hJ hf;go_simp
    first|rfl|exact⟨rfl,rfl⟩
   intro (b2:Nat);simp only[PT];dsimp only[sAn]
   repeat(refine dE (fun wr nr hJ=>by clear hJ;exact CL) ?_;simp only[PT])
   refine Aa (fun w6 hJ hF=>?_)
   have hb1:Blk w6 b1 91 #[(xc),.int .i64 (S.r (b:Nat)),(xm)]/\w7.heap.size<=b1:=hF 1;have hb2:Blk w6 b2 91 #[.int .i64 (-1),.int .i64 (S.r (a:Nat)+xn),(xm)]/\w7.heap.size<=b2:=hF 3;have hww:=HE3.o.size;have HB1:=hd hb1.1;have HB2:=hd hb2.1;have hl1:w.heap.size<=b1:=by have:=hb1.2;omega
   have hl2:w.heap.size<=b2:=by have:=hb2.2;omega
   have HE6:=hd (HE3.o.trans hJ.1);have er:Ae m S ⟨18,2,xd,a,b,xc,xp,xn,xm⟩=[⟨xc,S.r (b:Nat),xm⟩]:=by simp[Ae]
   have ew:Ab m S ⟨18,2,xd,a,b,xc,xp,xn,xm⟩=[⟨-1,S.r (a:Nat)+xn,xm⟩]:=by simp[Ab]
   have HER:=hd er;have HEW:=hd ew;clear hF hJ hb1 hb2 er ew;go_wp2_with fail
   go_ret2
   exact⟨_,1,1,_,1,1,rfl,by rw[HER.o];rfl,by rw[HEW.o];rfl,HE6.o,by rw[HER.o];exact RdA.one HB1.o rfl rfl rfl,by rw[HEW.o];exact RdA.one HB2.o rfl rfl rfl,fun y hy=>by cases hy;exact hl1,fun y hy=>by cases hy;exact hl2⟩
end Go.Proofs.YtkgmhggliifkjaaGreat
