import Derived.Test.YtkgmhggliifkjaaGreatP02
namespace Go.Proofs.YtkgmhggliifkjaaGreat
open Go.RowKit Go.Proofs.Tryz
set_option linter.all false
set_option maxHeartbeats 8000000
set_option maxRecDepth 100000
def Ei (m:Mc)(e:Bool)(fs xs:List Int):Nat->Bool
 | 0=>e
 | k+1=>Ei m e fs xs k&&Fs m (fs.getD k 0) (xs.getD k 0)
theorem Ur (m:Mc)(e:Bool)(fs xs:List Int)(k:Nat):Ei m e fs xs (k+1)=(Ei m e fs xs k&&Fs m (fs.getD k 0) (xs.getD k 0)):=rfl
def Gt (x:Ins):Bool:=if x.k=12 then decide (x.n<=x.m) else if x.k=13 then inR x.n 1 31 else if x.k=14 then decide (1<=x.n) else true
def Ej (m:Mc)(x:Ins):Bool:=
 if x.op=2\/x.op=11 then decide (0<Dr x.k)&&Gt x
 else if x.op=3 then inR x.c (-1000) 1000&&inR x.m 0 1000000
 else if x.op=13 then inR x.n 0 (m.lanes-1)
 else if x.op=14 then inR x.m 0 m.bank
 else if x.op=18 then inR x.k 1 2&&inR x.m 1 m.bank
 else true
def Dd (m:Mc)(f:Frm)(x:Ins):Bool:=Ei m (inR x.p 0 16) f.fs x.xs 6&&Ej m x
def Frm.wf (f:Frm):Prop:=∀k,k<6->0<=f.fs.getD k 0/\f.fs.getD k 0<=5
def RaSt (w:World)(mc fc xc:Array Value)(wx:World):Prop:=Ext [] w wx/\Blk wx w.heap.size 114 mc/\Blk wx (w.heap.size+1) 76 xc/\Blk wx (w.heap.size+2) 116 fc
theorem Yy (s:ByteArray)(m:Mc)(f:Frm)(x:Ins)(w:World)(hf:f.wf)(hb:0<=m.banks/\m.banks<=1000)(hq:0<=m.queues/\m.queues<=1000)(hl:0<=m.lanes/\m.lanes<=1000) :
  Calls prog 69 #[.agg m.cells.toArray,.agg x.cells.toArray,.agg (Frm.cells s f).toArray] w fun e w'=>e=.returned (.bool (Dd m f x))/\Ext [] w w':=by
 have HP:=hd (Mu f x);have HU:Hd (Dd m f x=(Ei m (inR x.p 0 16) f.fs x.xs 6&&Ej m x)):=hd rfl;have HF:Hd (∀k,k<6->0<=f.fs.getD k 0/\f.fs.getD k 0<=5):=hd hf;clear hf;have HR:Hd (Ej m x=_):=hd (by unfold Ej Gt;rfl);have HB:=hd hb;have HQ:=hd hq;have HL:=hd hl;clear hb hq hl;generalize hfs:f.fs=fs at *;generalize hxs:x.xs=xs at *;generalize hpc:Fd f x=pc at *;generalize hus:Dd m f x=us at *;generalize hrx:Ej m x=rx at *;have Hpc:=hd hpc;clear hfs hxs hpc hus hrx;obtain⟨fk,fd,fa,fb,fc,fn,fm,fp⟩:=f;obtain⟨xo,xk,xd,xa,xb,xc,xp,xn,xm⟩:=x;have HM:Hd (m=m):=hd rfl;have hmc:m.cells=[.int .i64 m.main,.int .i64 m.banks,.int .i64 m.bank,.int .i64 m.lanes,.int .i64 m.queues]:=rfl;rw[hmc];clear hmc;simp only[Frm.cells,Ins.cells,Fd] at *;go_enter func69,ntmps69
 go_upto_region 1 with fail
 go_cut [7] (fun sl wx=>sl=.bool (inR xp 0 16)/\RaSt w m.cells.toArray (Frm.cells s ⟨fk,fd,fa,fb,fc,fn,fm,fp⟩).toArray (Ins.cells ⟨xo,xk,xd,xa,xb,xc,xp,xn,xm⟩).toArray wx)
 case first=>
  go_wp2_with fail
  refine(Co _ _ _ _).mono ?_
  rintro e w' ⟨rfl,rfl⟩;go_wp2_with fail
  go_meet
  exact⟨rfl,((er.alloc _).alloc _).alloc _,((Blk.new _ _ _).alloc _).alloc _,(Blk.new' _ _ _ _ (by simp)).alloc _,Blk.new' _ _ _ _ (by simp)⟩
 case rest=>
  obtain⟨rfl,hE0,hB0,hB1,hB2⟩:=hcut;have hf1:=hB1.cell;have hf2:=hB2.cell;simp only[Frm.cells,Ins.cells] at hf1 hf2;have HB1:=hd hB1;have HB0:=hd hB0;have hl0:=hB0.lt;have hl1:=hB1.lt;have hl2:=hB2.lt;clear hB0 hB1 hB2;generalize he0:inR xp 0 16=e0 at *;clear he0;go_wp2_with fail
  have hpb:∀(wr:World),Ext [] (wc.alloc (.cells (Fd ⟨fk,fd,fa,fb,fc,fn,fm,fp⟩ ⟨xo,xk,xd,xa,xb,xc,xp,xn,xm⟩) 161)) wr->∀i,wr.cell? ⟨wc.heap.size,i,none⟩=pc[i]?:=fun wr h i=>by
   rw[<-Hpc.o];exact((Blk.new wc 161 _).ext h (by simp)).cell i
  have HPB:=hd hpb;clear hpb hf1 hf2;go_loopw [7,45] (fun e i wr=>∃k:Nat,i=.int .i64 k/\k<=6/\e=.bool (Ei m e0 fs xs k)/\Ext [] (wc.alloc (.cells (Fd ⟨fk,fd,fa,fb,fc,fn,fm,fp⟩ ⟨xo,xk,xd,xa,xb,xc,xp,xn,xm⟩) 161)) wr) (fun _ i _=>(6-intOf i).toNat)
  case atStart=>exact⟨0,rfl,by omega,rfl,er⟩
  case round=>
   obtain⟨k,rfl,hk,rfl,hE⟩:=hrel;by_cases hlt:k<6
   ·have hc:=HPB.o _ hE;have h1:=(HP.o k hlt).1;have h2:=(HP.o k hlt).2;rw[<-hc] at h1 h2;have HK:=hd (Ur m e0 fs xs k);have HY:=hd (HF.o k hlt);generalize Ei m e0 fs xs k=e1 at *;generalize fs.getD k 0=y0 at *;generalize xs.getD k 0=y1 at *;clear hc;have hcm:=((HB0.o.alloc _).ext hE (by simp)).cell;have hlm:=((HB0.o.alloc _).ext hE (by simp)).lt;simp only[Mc.cells] at hcm;cases e1
    ·go_wp2_with fail
     go_round
     case rel=>exact⟨k+1,by go_num,by omega,by rw[HK.o];rfl,hE.alloc _⟩
     case measure=>simp[intOf];omega
    ·go_wp2_with fail
     refine(Ab4 m _ _ _ HY.o HB.o HQ.o).mono ?_
     rintro e w' ⟨rfl,hE2⟩;clear hcm h1 h2;go_wp2_with fail
     go_round
     case rel=>exact⟨k+1,by go_num,by omega,by rw[HK.o];rfl,(hE.alloc _).trans hE2⟩
     case measure=>simp[intOf];omega
   ·have h6:k=6:=by omega
    subst h6;clear hk hlt;have HE:=hd (hE0.trans ((er.alloc _).trans hE));have hcm:=((HB0.o.alloc _).ext hE (by simp)).cell;have hcx:=((HB1.o.alloc _).ext hE (by simp)).cell;have hlm:=((HB0.o.alloc _).ext hE (by simp)).lt;have hlx:=((HB1.o.alloc _).ext hE (by simp)).lt;simp only[Mc.cells,Ins.cells] at hcm hcx;clear hE hE0 HPB Hpc HP HF;generalize Ei m e0 fs xs 6=e1 at *;obtain⟨m0,m1,m2,m3,m4⟩:=m;obtain⟨hL0,hL1⟩:=HL.o;simp only at hL0 hL1 hcm;simp only at HR
    have hop:(xo=2\/xo=11)\/xo=3\/xo=13\/xo=14\/xo=18\/((xo==2)=false/\(xo==11)=false/\(xo==3)=false/\(xo==13)=false/\(xo==14)=false/\(xo==18)=false):=by
     simp;omega
    clear HL HB HQ HM;rcases hop with hop|rfl|rfl|rfl|rfl|⟨h1,h2,h3,h4,h5,h6⟩
    ·have hRR:Hd (rx=(decide (0<Dr xk)&&if xk=12 then decide (xn<=xm) else if xk=13 then inR xn 1 31 else if xk=14 then decide (1<=xn) else true)):=hd (by rw[HR.o,ijp hop]);clear HR;have hkk:xk=12\/xk=13\/xk=14\/((xk==12)=false/\(xk==13)=false/\(xk==14)=false):=by simp;omega
     rcases hkk with rfl|rfl|rfl|⟨h1,h2,h3⟩
     ·have hRR':Hd (rx=(decide (0<(1:Int))&&decide (xn<=xm))):=hd hRR.o;clear hRR
      rcases hop with rfl|rfl<;>(
       cases e1
       ·go_wp2_with fail
        go_ret
        exact⟨Ay (by rw[HU.o];rfl),HE.o⟩
       ·by_cases hn:xn<=xm
        ·go_wp2_with (go_at_call 111;refine(Dc _ _).mono ?_;rintro e w' ⟨rfl,rfl⟩)
         go_ret
         exact⟨Ay (by rw[HU.o,hRR'.out];simp[hn]),HE.o⟩
        ·go_wp2_with (go_at_call 111;refine(Dc _ _).mono ?_;rintro e w' ⟨rfl,rfl⟩)
         go_ret
         exact⟨Ay (by rw[HU.o,hRR'.out];simp[hn]),HE.o⟩)
     ·have hRR':Hd (rx=(decide (0<(1:Int))&&inR xn 1 31)):=hd hRR.o;clear hRR
      rcases hop with rfl|rfl<;>(
       cases e1
       ·go_wp2_with fail
        go_ret
        exact⟨Ay (by rw[HU.o];rfl),HE.o⟩
       ·go_wp2_with (first|(go_at_call 111;refine(Dc _ _).mono ?_;rintro e w' ⟨rfl,rfl⟩)|(go_at_call 74;refine(Co _ _ _ _).mono ?_;rintro e w' ⟨rfl,rfl⟩))
        go_ret
        exact⟨Ay (by rw[HU.o,hRR'.out];simp),HE.o⟩)
     ·have hRR':Hd (rx=(decide (0<(1:Int))&&decide (1<=xn))):=hd hRR.o;clear hRR
      rcases hop with rfl|rfl<;>(
       cases e1
       ·go_wp2_with fail
        go_ret
        exact⟨Ay (by rw[HU.o];rfl),HE.o⟩
       ·by_cases hn:1<=xn
        ·go_wp2_with (go_at_call 111;refine(Dc _ _).mono ?_;rintro e w' ⟨rfl,rfl⟩)
         go_ret
         exact⟨Ay (by rw[HU.o,hRR'.out];simp[hn]),HE.o⟩
        ·go_wp2_with (go_at_call 111;refine(Dc _ _).mono ?_;rintro e w' ⟨rfl,rfl⟩)
         go_ret
         exact⟨Ay (by rw[HU.o,hRR'.out];simp[hn]),HE.o⟩)
     ·have hRR':Hd (rx=decide (0<Dr xk)):=hd (by
       rw[hRR.o,ijn (by simpa using h1),ijn (by simpa using h2),ijn (by simpa using h3),Bool.and_true])
      clear hRR;generalize hax:Dr xk=ax at hRR'
      rcases hop with rfl|rfl<;>(
       cases e1
       ·go_wp2_with fail
        go_ret
        exact⟨Ay (by rw[HU.o];rfl),HE.o⟩
       ·by_cases hn:0<ax
        ·go_wp2_with (go_at_call 111;refine(Dc _ _).mono ?_;rintro e w' ⟨rfl,rfl⟩;rw[hax];clear hax)
         go_ret
         exact⟨Ay (by rw[HU.o,hRR'.out];simp[hn]),HE.o⟩
        ·go_wp2_with (go_at_call 111;refine(Dc _ _).mono ?_;rintro e w' ⟨rfl,rfl⟩;rw[hax];clear hax)
         go_ret
         exact⟨Ay (by rw[HU.o,hRR'.out];simp[hn]),HE.o⟩)
    ·have hRR:Hd (rx=(inR xc (-1000) 1000&&inR xm 0 1000000)):=hd HR.o;clear HR;cases e1
     ·go_wp2_with fail
      go_ret
      exact⟨Ay (by rw[HU.o];rfl),HE.o⟩
     ·cases h1:inR xc (-1000) 1000
      ·go_wp2_with (go_at_call 74;refine(Co _ _ _ _).mono ?_;rintro e w' ⟨rfl,rfl⟩)
       go_ret
       exact⟨Ay (by rw[HU.o,hRR.o,h1];rfl),HE.o⟩
      ·go_wp2_with (go_at_call 74;refine(Co _ _ _ _).mono ?_;rintro e w' ⟨rfl,rfl⟩)
       go_ret
       exact⟨Ay (by rw[HU.o,hRR.o,h1];rfl),HE.o⟩
    ·have hRR:Hd (rx=inR xn 0 (m3-1)):=hd HR.o;clear HR;cases e1
     ·go_wp2_with fail
      go_ret
      exact⟨Ay (by rw[HU.o];rfl),HE.o⟩
     ·go_wp2_with (go_at_call 74;refine(Co _ _ _ _).mono ?_;rintro e w' ⟨rfl,rfl⟩)
      go_ret
      exact⟨Ay (by rw[HU.o,hRR.o];rfl),HE.o⟩
    ·have hRR:Hd (rx=inR xm 0 m2):=hd HR.o;clear HR;cases e1
     ·go_wp2_with fail
      go_ret
      exact⟨Ay (by rw[HU.o];rfl),HE.o⟩
     ·go_wp2_with (go_at_call 74;refine(Co _ _ _ _).mono ?_;rintro e w' ⟨rfl,rfl⟩)
      go_ret
      exact⟨Ay (by rw[HU.o,hRR.o];rfl),HE.o⟩
    ·have hRR:Hd (rx=(inR xk 1 2&&inR xm 1 m2)):=hd HR.o;clear HR;cases e1
     ·go_wp2_with fail
      go_ret
      exact⟨Ay (by rw[HU.o];rfl),HE.o⟩
     ·cases h1:inR xk 1 2
      ·go_wp2_with (go_at_call 74;refine(Co _ _ _ _).mono ?_;rintro e w' ⟨rfl,rfl⟩)
       go_ret
       exact⟨Ay (by rw[HU.o,hRR.o,h1];rfl),HE.o⟩
      ·go_wp2_with (go_at_call 74;refine(Co _ _ _ _).mono ?_;rintro e w' ⟨rfl,rfl⟩)
       go_ret
       exact⟨Ay (by rw[HU.o,hRR.o,h1];rfl),HE.o⟩
    ·have hRR:Hd (rx=true):=hd (by
      simp only[beq_eq_false_iff_ne] at h1 h2 h3 h4 h5 h6;rw[HR.o];simp[h1,h2,h3,h4,h5,h6])
     clear HR;go_wp2_with fail
     go_ret
     exact⟨Ay (by rw[HU.o,hRR.o,Bool.and_true]),HE.o⟩
end Go.Proofs.YtkgmhggliifkjaaGreat
