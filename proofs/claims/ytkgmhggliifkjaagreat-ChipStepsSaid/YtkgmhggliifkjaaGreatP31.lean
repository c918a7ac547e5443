import Derived.Test.YtkgmhggliifkjaaGreatP30
namespace Go.Proofs.YtkgmhggliifkjaaGreat
open Go.RowKit Go.Proofs.Tryz
set_option linter.all false
set_option maxHeartbeats 8000000
set_option maxRecDepth 100000
section
attribute [local irreducible] Ax
def RdB (w:World)(A:Option Addr)(l:List Ar):Prop:=l=[]\/∃b o,A=some ⟨b,o,none⟩/\∀k a,l[k]? = some a->w.cell? ⟨b,o+k*3,none⟩=some (.int .i64 a.bank)/\w.cell? ⟨b,o+k*3+1,none⟩=some (.int .i64 a.lo)/\w.cell? ⟨b,o+k*3+2,none⟩=some (.int .i64 (a.lo+a.size))
theorem RdB.ext {S:List Nat}{w w':World}{A:Option Addr}{l:List Ar}(h:RdB w A l)(hE:Ext S w w')(hS:∀a,A=some a->a.block∉S):RdB w' A l:=by
 rcases h with h|⟨b,o,rfl,h⟩
 ·exact .inl h
 ·refine .inr ⟨b,o,rfl,fun k x hx=>?_⟩
  have hb:b∉S:=hS ⟨b,o,none⟩ rfl;obtain⟨h1,h2,h3⟩:=h k x hx;exact⟨hE.held h1 hb,hE.held h2 hb,hE.held h3 hb⟩
theorem RdB.at {w:World}{A:Option Addr}{l:List Ar}(h:RdB w A l){k:Nat}{a:Ar}(hx:l[k]? = some a) :
  ∃b o,A=some ⟨b,o,none⟩/\b<w.heap.size/\w.cell? ⟨b,o+k*3,none⟩=some (.int .i64 a.bank)/\w.cell? ⟨b,o+k*3+1,none⟩=some (.int .i64 a.lo)/\w.cell? ⟨b,o+k*3+2,none⟩=some (.int .i64 (a.lo+a.size)):=by
 rcases h with h|⟨b,o,rfl,h⟩
 ·simp[h] at hx
 ·obtain⟨h1,h2,h3⟩:=h k a hx;exact⟨b,o,rfl,World.block_lt_of_cell? w ⟨b,_,none⟩ h1,h1,h2,h3⟩
theorem RdB.one {w:World}{b:Nat}{a:Ar}{x y z:Value}(h:Blk w b 136 #[x,y,z])(hx:x=.int .i64 a.bank)(hy:y=.int .i64 a.lo)(hz:z=.int .i64 (a.lo+a.size)):RdB w (some b) [a]:=by
 subst hx hy hz;refine .inr ⟨b,0,rfl,fun k u hu=>?_⟩
 match k,hu with
 | 0,hu=>cases hu;exact⟨h.cell 0,h.cell 1,h.cell 2⟩
theorem Ro (a b:Ar)(w:World) :
  Calls prog 90 #[.agg #[.int .i64 a.bank,.int .i64 a.lo,(a.lo+a.size)],.agg #[.int .i64 b.bank,.int .i64 b.lo,(b.lo+b.size)]] w fun e w'=>e=.returned (.bool (a.meets b))/\Ext [] w w':=by
 obtain⟨ab,al,az⟩:=a;obtain⟨bb,bl,bs⟩:=b;simp only at *;obtain⟨at',hat⟩:∃x,x=al+az:=⟨_,rfl⟩;obtain⟨bt',hbt⟩:∃x,x=bl+bs:=⟨_,rfl⟩;have HM:Hd ((Ar.mk ab al az).meets ⟨bb,bl,bs⟩=(decide (ab=bb)&&(decide (al<bt')&&decide (bl<at')))):=hd (by rw[hat,hbt];rfl);rw[<-hat,<-hbt];clear hat hbt;by_cases h1:ab=bb
 ·subst h1;by_cases h2:al<bt'
  ·have HV:Hd ((Ar.mk ab al az).meets ⟨ab,bl,bs⟩=decide (bl<at')):=hd (by rw[HM.o];simp[h2]);go_enter func90,ntmps90
   go_wp2_with fail
   go_ret
   exact⟨Ay HV.o.symm,(er.alloc _).alloc _⟩
  ·have HV:Hd ((Ar.mk ab al az).meets ⟨ab,bl,bs⟩=false):=hd (by rw[HM.o,decide_eq_false h2];simp);have hd2:decide (al<bt')=false:=decide_eq_false h2;go_enter func90,ntmps90
   go_wp2_with fail
   go_ret
   exact⟨Ay HV.o.symm,(er.alloc _).alloc _⟩
 ·have hd1:(ab==bb)=false:=by simpa using h1
  have HV:Hd ((Ar.mk ab al az).meets ⟨bb,bl,bs⟩=false):=hd (by rw[HM.o,decide_eq_false h1];simp);clear h1;go_enter func90,ntmps90
  go_wp2_with fail
  go_ret
  exact⟨Ay HV.o.symm,(er.alloc _).alloc _⟩
theorem Afm (x y z:Int)(p:Ar->Bool)(A:Option Addr)(n cap:Nat)(l:List Ar)(w:World)(hF:∀a,a∈l->∀W,Ext [] w W->Calls prog 90 #[.agg #[x,y,z],.agg #[.int .i64 a.bank,.int .i64 a.lo,(.int .i64 (a.lo+a.size))]] W (fun e w'=>e=.returned (.bool (p a))/\Ext [] W w'))(h:RdB w A l)(hn:l.length=n)(hl:n<=100) :
  Calls prog 117 #[.slice A n cap,.func (.func 90) #[.agg #[x,y,z]] #[]] w fun e w'=>∃r:Int,e=.returned (.int .i64 r)/\(0<=r ↔ l.any p=true)/\Ext [] w w':=by
 have HH:=hd h;have HF:=hd hF;have HN:=hd hn;clear h hF hn;go_enter func117,ntmps117
 go_wp2_with fail
 go_loopw [8] (fun i wr=>∃k:Nat,i=.int .i64 k/\k<=n/\Hd (∀j y,j<k->l[j]? = some y->p y=false)/\Hd (Ext [] w wr)) (fun i _=>(n-intOf i).toNat)
 case atStart=>exact⟨0,rfl,Nat.zero_le _,hd fun j y hj=>absurd hj (by omega),hd er⟩
 case round=>
  obtain⟨k,rfl,hk,HNO,HE⟩:=hrel;by_cases hlt:k<n
  ·obtain⟨a,ha⟩:∃a,l[k]? = some a:=⟨_,List.getElem?_eq_getElem (by have:=HN.o;omega)⟩;obtain⟨b,o,rfl,hbl,h1,h2,h3⟩:=(HH.o.ext HE.o (by simp)).at ha;have HX:=hd ha;have HFA:=hd (HF.o a (ilm ha));obtain⟨ab,al,az⟩:=a;simp only at h1 h2 h3;simp only at HFA;clear ha;go_wp2_with fail
   refine(HFA.o _ HE.o).mono ?_
   rintro e w2 ⟨rfl,hE2⟩;have HE2:=hd (HE.o.trans hE2);clear hE2 h1 h2 h3;cases hq:p ⟨ab,al,az⟩
   ·have HQ:=hd hq;clear hq;go_wp2_with fail
    go_roundw
    case rel=>
     refine⟨k+1,by go_num,by omega,hd fun j z hj hz=>?_,HE2⟩
     rcases Nat.lt_or_ge j k with h1|h1
     ·exact HNO.o j z h1 hz
     ·have:j=k:=by omega
      subst this;rw[HX.o] at hz;cases hz
      exact HQ.o
    case measure=>simp[intOf];omega
   ·have HQ:=hd hq;clear hq;go_wp2_with fail
    go_ret
    refine⟨_,rfl,?_,HE2.o⟩
    constructor
    ·intro _;exact List.any_eq_true.2 ⟨_,ilm HX.o,HQ.o⟩
    ·intro _;omega
  ·go_wp2_with fail
   go_ret
   refine⟨_,rfl,?_,HE.o⟩
   constructor
   ·intro h0;omega
   ·intro hm;obtain⟨f,hf,hq⟩:=List.any_eq_true.1 hm;obtain⟨i,hi⟩:=List.getElem?_of_mem hf;have hil:=(ils hi).1;have:=HNO.o i f (by have:=HN.o;omega) hi;rw[hq] at this;cases this
theorem Po (x y z:Int)(p:Ar->Bool)(A:Option Addr)(n cap:Nat)(l:List Ar)(w:World)(hF:∀a,a∈l->∀W,Ext [] w W->Calls prog 90 #[.agg #[x,y,z],.agg #[.int .i64 a.bank,.int .i64 a.lo,(.int .i64 (a.lo+a.size))]] W (fun e w'=>e=.returned (.bool (p a))/\Ext [] W w'))(h:RdB w A l)(hn:l.length=n)(hl:n<=100) :
  Calls prog 89 #[.slice A n cap,.func (.func 90) #[.agg #[x,y,z]] #[]] w fun e w'=>e=.returned (.bool (l.any p))/\Ext [] w w':=by
 go_enter func89,ntmps89
 go_wp2_with fail
 refine(Afm x y z p A n cap l w hF h hn hl).mono ?_
 rintro e w' ⟨r,rfl,hr,hE⟩;have HR:=hd hr;have HE:=hd hE;clear hr hE;go_wp2_with fail
 go_ret
 exact⟨Ay (by rw[Bool.eq_iff_iff];simp only[decide_eq_true_eq];exact HR.o),HE.o⟩
def Ht (m:Mc)(R:RA)(b:Int):Value:=if b<0 then .slice (some R.A.mb) m.main.toNat R.A.mcap else .slice (some ⟨R.A.bk b.toNat,0,none⟩) m.bank.toNat m.bank.toNat
section
variable {w:World} {R:RA} {m:Mc} {xs:List Ins} {S:MS}
theorem Mp (h:Ak w R m xs S)(b:Int)(hb:b<0\/(0<=b/\b<m.banks)) :
  Calls prog 88 #[.pointer (some R.A.c),b] w fun e w'=>e=.returned (Ht m R b)/\w=w':=by
 have q32:=h.cell (i:=32) (by omega) (v:=.slice (some R.A.mb) m.main.toNat R.A.mcap) rfl;have q33:=h.cell (i:=33) (by omega) (v:=.slice (some R.A.bo) m.banks.toNat R.A.bcap) rfl;have ql:=h.lt;by_cases h0:b<0
 ·have HV:Hd (Ht m R b=.slice (some R.A.mb) m.main.toNat R.A.mcap):=hd (by unfold Ht;rw[ijp h0]);rw[HV.o];clear h hb q33;go_enter func88,ntmps88
  go_wp2_with fail
  go_ret
  exact⟨rfl,rfl⟩
 ·obtain⟨k,rfl⟩:∃k:Nat,b=k:=⟨b.toNat,by omega⟩;have hk:k<m.banks.toNat:=by omega
  have HV:Hd (Ht m R (k:Nat)=.slice (some ⟨R.A.bk k,0,none⟩) m.bank.toNat m.bank.toNat):=hd (by unfold Ht;rw[ijn h0];rfl);rw[HV.o];have qb:=h.stat.banks.cell hk;have qbl:=h.stat.banks.lt;have hd0:decide (((k:Nat):Int)<0)=false:=decide_eq_false h0;obtain⟨B,hB⟩:∃B,m.banks.toNat=B:=⟨_,rfl⟩;rw[hB] at q33 hk;have hkI:((k:Nat):Int)<(B:Nat):=by omega
  clear h hb q32 h0 hB;go_enter func88,ntmps88
  go_wp2_with fail
  go_ret
  exact⟨rfl,rfl⟩
theorem Vh {fn:Func}{p:Tmp}(h:fn.results=#[.cell p 136])(tmps:Array Value)(w:World)(g:Nat)(x y z:Int)
  (hp:tmps.getD p undef=.pointer (some g)) (hg:Blk w g 136 #[x,y,z]):(results fn tmps).run prog w=.ok (.agg #[x,y,z]) w:=
 results_cell_row h tmps w g _ #[x,y,z] (0,0) _ hp hg underlying136 rfl (by kernel_rfl)
theorem Ie (h:Ak w R m xs S)(hw:WfM m S)(xo xk xd xb xc xp xn xm:Int)(a:Nat)(ha:a<16)(hn:isW xn)(b n:Int)(hnn:0<=n/\n<=1048576) :
  Calls prog 86 #[.pointer (some R.A.c),.agg #[xo,xk,xd,a,xb,xc,xp,xn,xm],b,n] w fun e w'=>e=.returned (.agg #[b,.int .i64 (S.r (a:Nat)+xn),.int .i64 (S.r (a:Nat)+xn+n)])/\Ext [] w w':=by
 have HH:=hd h;have hr:=hw.r (a:Nat);unfold isW at hr hn;obtain⟨hr0,hr1⟩:=hr;obtain⟨hn0,hn1⟩:=hn;obtain⟨hz0,hz1⟩:=hnn;have haZ:((a:Nat):Int)<16:=by omega
 have HE0:=hd (((Ext.refl [] w).alloc (.cells #[xo,xk,xd,a,xb,xc,xp,xn,xm] 76)).alloc (.cells #[(0:Int),(0:Int),(0:Int)] 136));have HX:=hd ((Blk.new w 76 #[xo,xk,xd,a,xb,xc,xp,xn,xm]).alloc (.cells #[(0:Int),(0:Int),(0:Int)] 136));have HY:=hd (Blk.new' (w.alloc (.cells #[xo,xk,xd,a,xb,xc,xp,xn,xm] 76)) 136 #[(0:Int),(0:Int),(0:Int)] (w.heap.size+1) (by simp));obtain⟨rv,hrv⟩:∃v,v=S.r (a:Nat):=⟨_,rfl⟩;have HRV:=hd hrv;rw[<-hrv] at hr0 hr1⊢;clear h hw hrv;go_enter func86,ntmps86
 go_wp2_with fail
 generalize (w.alloc (.cells #[xo,xk,xd,a,xb,xc,xp,xn,xm] 76)).alloc (.cells #[(0:Int),(0:Int),(0:Int)] 136)=w1 at *;refine rgE 11 [] ?_
 simp only[TK]
 repeat(refine dE (fun wr nr hJ=>by(have hC:=HH.o.nil (HE0.o.trans hJ);have q10:=hC.reg ha;rw[<-HRV.o] at q10;have ql:=hC.lt;have qx:=HX.o.ext hJ (by simp);have qxc:=qx.cell;have qxl:=qx.lt;clear qx hC);clear hJ;exact CL) ?_;simp only[PT])
 refine Aa (fun w2 hJ hF=>?_)
 have HY2:=hd (HY.o.ext hJ (by simp));have HE2:=hd (HE0.o.trans hJ);have qc:=HY2.o.cell;have qf:=HY2.o.frozen;have ql:=HY2.o.lt;have HY3:=hd (((HY2.o.set_ 0 b).set_ 1 (.int .i64 (rv+xn))).set_ 2 (.int .i64 (rv+xn+n)));have HE3:=hd (((HE2.o.setCell (p:=⟨w.heap.size+1,0,none⟩) (.inr (by simp)) b).setCell (p:=⟨w.heap.size+1,1,none⟩) (.inr (by simp)) (.int .i64 (rv+xn))).setCell (p:=⟨w.heap.size+1,2,none⟩) (.inr (by simp)) (.int .i64 (rv+xn+n)));clear hF hJ;go_wp2_with fail
 exact bodyPost_ret (Vh rfl _ _ (w.heap.size+1) b (rv+xn) (rv+xn+n) rfl HY3.o) rfl ⟨rfl,HE3.o⟩
end
end
section
attribute [local irreducible] Ax
section
variable {w w':World} {A:CA} {R:RA} {m:Mc} {xs:List Ins} {S:MS} {T:List Nat}
theorem Ms.putMain (h:Ms w A m S.mem S.set)(k:CKd A m xs)(lo:Nat)(ws:List Int):Ms (w.setCells A.mb lo (ws.map (Value.int .i64))) A m (S.put ⟨-1,(lo:Nat),(ws.length:Nat)⟩ ws).mem (S.put ⟨-1,(lo:Nat),(ws.length:Nat)⟩ ws).set:=by
 have hE:Ext [A.mb] w (w.setCells A.mb lo (ws.map (Value.int .i64))):=Ext.setCells (.inl (by simp)) _ _ er;have hT:∀x∈[A.mb],A.kd x=1:=fun x hx=>by rw[ms hx];exact k.km
 refine⟨?_,fun b hb=>?_,fun b hb=>?_⟩
 ·exact(UpW.setCells _ lo h.main).same (fun j _=>(Qi S (-1) lo ws j).symm)
 ·refine((h.bank b hb).ext hE (fun hm=>by have h0:=hT _ hm;have h1:=k.kbk b hb;omega)).same (fun j _=>?_)
  simp only[MS.put];rw[ijn (by omega)]
 ·refine((h.set b hb).ext hE (fun hm=>by have h0:=hT _ hm;have h1:=k.ksb b hb;omega)).same (fun j _=>?_)
  simp only[MS.put];rw[ijn (by omega)]
theorem Ms.putBank (h:Ms w A m S.mem S.set)(k:CKd A m xs)(bk:Nat)(hbk:bk<m.banks.toNat)(lo:Nat)(ws:List Int):Ms (w.setCells (A.bk bk) lo (ws.map (Value.int .i64))) A m (S.putM ⟨(bk:Nat),(lo:Nat),(ws.length:Nat)⟩ ws 0).mem (S.putM ⟨(bk:Nat),(lo:Nat),(ws.length:Nat)⟩ ws 0).set:=by
 have hE:Ext [A.bk bk] w (w.setCells (A.bk bk) lo (ws.map (Value.int .i64))):=Ext.setCells (.inl (by simp)) _ _ er;have hT:∀x∈[A.bk bk],A.kd x=10+bk:=fun x hx=>by rw[ms hx];exact k.kbk bk hbk
 have hs:=k.small;refine⟨?_,fun b hb=>?_,fun b hb=>?_⟩
 ·refine(h.main.ext hE (fun hm=>by have h0:=hT _ hm;have h1:=k.km;omega)).same (fun j _=>?_)
  simp only[MS.putM,MS.put];rw[ijn (by omega)]
 ·by_cases hbb:b=bk
  ·subst hbb;exact(UpW.setCells _ lo (h.bank b hb)).same (fun j _=>(Qi S (b:Nat) lo ws j).symm)
  ·refine((h.bank b hb).ext hE (fun hm=>by have h0:=hT _ hm;have h1:=k.kbk b hb;omega)).same (fun j _=>?_)
   simp only[MS.putM,MS.put];rw[ijn (by omega)]
 ·refine((h.set b hb).ext hE (fun hm=>by have h0:=hT _ hm;have h1:=k.ksb b hb;omega)).same (fun j _=>?_)
  simp only[MS.putM];rw[ijn (by omega)]
theorem Ms.putSet (k:CKd A m xs)(bk:Nat)(hbk:bk<m.banks.toNat)(lo i n:Nat)(ws:List Int)(h:Ms w A m (S.putM ⟨(bk:Nat),(lo:Nat),(n:Nat)⟩ ws (i:Nat)).mem (S.putM ⟨(bk:Nat),(lo:Nat),(n:Nat)⟩ ws (i:Nat)).set):Ms (w.setCell ⟨A.sb bk,lo+i,none⟩ (.bool true)) A m (S.putM ⟨(bk:Nat),(lo:Nat),(n:Nat)⟩ ws (i+1:Nat)).mem (S.putM ⟨(bk:Nat),(lo:Nat),(n:Nat)⟩ ws (i+1:Nat)).set:=by
 have hE:Ext [A.sb bk] w (w.setCell ⟨A.sb bk,lo+i,none⟩ (.bool true)):=er.setCell (.inl (by simp)) _;have hT:∀x∈[A.sb bk],A.kd x=20+bk:=fun x hx=>by rw[ms hx];exact k.ksb bk hbk
 have hs:=k.small;refine⟨?_,fun b hb=>?_,fun b hb=>?_⟩
 ·exact h.main.ext hE (fun hm=>by have h0:=hT _ hm;have h1:=k.km;omega)
 ·exact(h.bank b hb).ext hE (fun hm=>by have h0:=hT _ hm;have h1:=k.kbk b hb;omega)
 ·by_cases hbb:b=bk
  ·subst hbb;refine(h.set b hb).set (lo+i) _ (fun j _=>?_)
   simp only[MS.putM];by_cases hj:j=lo+i
   ·rw[ijp hj,ijp ⟨trivial,by omega,by omega⟩]
   ·rw[ijn hj];by_cases hj2:lo<=j/\j<lo+i
    ·rw[ijp ⟨trivial,by omega,by omega⟩,ijp ⟨trivial,by omega,by omega⟩]
    ·rw[ijn (fun hh=>by have:=hh.2;omega),ijn (fun hh=>by have:=hh.2;omega)]
  ·refine((h.set b hb).ext hE (fun hm=>by have h0:=hT _ hm;have h1:=k.ksb b hb;omega)).same (fun j _=>?_)
   simp only[MS.putM];rw[ijn (by omega),ijn (by omega)]
theorem Ak.memT (h:Ak w R m xs S)(hE:Ext T w w')(hT:∀x∈T,R.A.kd x=1\/(10<=R.A.kd x/\R.A.kd x<40)){f:Int->Int->Int}{g:Int->Int->Bool}(hm:Ms w' R.A m f g):Ak w' R m xs {S with mem:=f,set:=g } where
 ref:=h.ref.ext hE (fun hm=>by have h0:=hT _ hm;have h1:=h.kd.kc;omega)
 stat:=h.stat.ext h.kd hE (fun x hx=>by have:=hT x hx;omega)
 mem:=hm
 que:=by
  have h1:=h.que.ext h.kd hE (fun x hx=>by have:=hT x hx;omega);exact⟨h1.map,h1.words⟩
 loops:=h.loops.ext hE (fun x hx=>by have:=hT x hx;omega)
 vec:=by
  have h1:=h.vec.ext h.kd hE (fun x hx=>by have:=hT x hx;omega);exact⟨h1.v,h1.wo,h1.wt,h1.wcap,h1.acc,h1.ak⟩
 flt:=h.flt.ext hE (fun x hx=>by have:=hT x hx;omega)
 kd:=h.kd
end
def PutR (T:List Nat)(R:RA)(m:Mc)(xs:List Ins)(S:MS)(w:World)(e:Ending)(w':World):Prop:=e=.returned (.tuple #[])/\Ext T w w'/\Ak w' R m xs S
theorem Adr {w:World}{R:RA}{m:Mc}{xs:List Ins}{S:MS}(h:Ak w R m xs S)(lo n hi b o cw:Nat)(ws:List Int)(hn:ws.length=n)(h1:1<=n)(h2:lo+n<=m.main.toNat)(hhi:hi=lo+n)(hsrc:∀j x,ws[j]? = some x->w.cell? ⟨b,o+j,none⟩=some (.int .i64 x)) :
  Calls prog 85 #[.pointer (some R.A.c),.agg #[.int .i64 (-1),lo,hi],.slice (some ⟨b,o,none⟩) n cw] w (PutR [R.A.mb] R m xs (S.put ⟨-1,(lo:Nat),(n:Nat)⟩ ws) w):=by
 have hm:=Bc h.kd.ok;have hms:m.main.toNat<=524288:=by omega
 have HH:=hd h;have HN:=hd hn;have HS:=hd hsrc;have H2:=hd h2;have HHI:=hd hhi;have hmc:=h.stat.mcap;obtain⟨MM,hMM⟩:∃M,m.main.toNat=M:=⟨_,rfl⟩;have HMM:=hd hMM;obtain⟨MC,hMC⟩:∃M,R.A.mcap=M:=⟨_,rfl⟩;have HMC:=hd hMC;rw[hMM] at h2 hms hmc;rw[hMC] at hmc;have hz1:(0:Int)<=(hi:Int):=by omega
 have hz2:(hi:Int)<=(MM:Int):=by omega
 have hz2':(hi:Int)<=(MC:Int):=by omega
 have hz3:lo<=hi:=by omega
 have hz4:hi-lo=n:=by omega
 have hz5:(lo:Int)<=(hi:Int):=by omega
 have hz6:MC≠lo:=by omega
 have hz7:(lo:Int)<(hi:Int):=by omega
 have hn5:n<=524288:=by omega
 have hwv:Ht m R (-1)=.slice (some R.A.mb) MM MC:=by unfold Ht;rw[ijp (by omega),hMM,hMC]
 have HWD:=hd (fun W (hW:Ext [] w W)=>Mp (HH.o.nil hW) (-1) (.inl (by omega)));rw[hwv] at HWD;clear h hn hsrc hm h2 hhi hMM hMC hwv;have HX:=hd (Blk.new w 136 #[.int .i64 (-1),lo,hi]);have HE0:=hd ((Ext.refl [] w).alloc (.cells #[.int .i64 (-1),lo,hi] 136));go_enter func85,ntmps85
 go_upto_region 1 with fail
 generalize w.alloc (.cells #[.int .i64 (-1),lo,hi] 136)=w0 at *;generalize hwl:w.heap.size=bl at *;refine rgE 10 [(3,Bv (.slice (some R.A.mb) MM MC))] ?_
 simp only[TK]
 repeat(refine dE (fun wr nr hJ=>by(have qx:=HX.o.ext hJ (by simp);have qxc:=qx.cell;have qxl:=qx.lt;clear qx);clear hJ;exact CL) ?_;simp only[PT])
 refine Bj rfl rfl ?_ ?_
 ·apply Exists.intro
  apply Exists.intro
  refine⟨fun wr=>?_,fun wr nr hJ=>?_⟩
  ·go_simp
   first|exact⟨rfl,rfl⟩|rfl
  ·exact(by refine(HWD.o _ (HE0.o.trans hJ)).mono ?_;rintro e w' ⟨rfl,rfl⟩;exact⟨rfl,er⟩)
 simp only[PT]
 repeat(refine dE (fun wr nr hJ=>by(have qx:=HX.o.ext hJ (by simp);have qxc:=qx.cell;have qxl:=qx.lt;clear qx;have hC:=HH.o.nil (HE0.o.trans hJ);have qm:=hC.mem.main.lt;clear hC);clear hJ;exact CL) ?_;simp only[PT])
 refine Aa (fun w1 hJ hF=>?_)
 have HE1:=hd (HE0.o.trans hJ);have HC1:=hd (HH.o.nil HE1.o)
 have hcp:∀ty,(Builtin.copy_ #[22,22] ty #[.slice (some ⟨R.A.mb,lo,none⟩) n (MC-lo),.slice (some ⟨b,o,none⟩) n cw]).run prog w1=.ok (goInt (n:Nat)) (w1.setCells R.A.mb lo (ws.map (Value.int .i64))):=fun ty=>by
  have hr:=run_copy_cells (P:=prog) w1 22 22 ty 3 R.A.mb lo n (MC-lo) ⟨b,o,none⟩ n cw (ws.map (Value.int .i64)) underlying22 (by kernel_rfl) (by rw[List.length_map,HN.o];exact(Nat.min_self n).symm)
   (fun j v hv=>by
    rw[List.getElem?_map] at hv;cases hj:ws[j]? with
    | none=>rw[hj] at hv;cases hv
    | some y=>rw[hj] at hv;cases hv;rw[Addr.add_mk];exact HE1.o.held (HS.o j y hj) (by simp))
   (fun j hj=>by rw[HC1.o.mem.main.cell (by rw[List.length_map,HN.o] at hj;have:=H2.o;omega)];rfl)
   (fun j hj=>HC1.o.mem.main.frozen _)
   (fun v hv=>by obtain⟨y,_,rfl⟩:=List.mem_map.1 hv;rfl)
  rw[List.length_map,HN.o] at hr;exact hr
 have HX1:=hd (HX.o.ext hJ (by simp));have HE2:Hd (Ext [R.A.mb] w (w1.setCells R.A.mb lo (ws.map (Value.int .i64)))):=hd (Ext.setCells (.inl (by simp)) _ _ HE1.o.nil)
 have HC2:Hd (Ak (w1.setCells R.A.mb lo (ws.map (Value.int .i64))) R m xs (S.put ⟨-1,(lo:Nat),(n:Nat)⟩ ws)):=hd (by
  have:=HC1.o.mem.putMain (S:=S) HH.o.kd lo ws;rw[HN.o] at this;exact HC1.o.memT (Ext.setCells (S:=[R.A.mb]) (b:=R.A.mb) (.inl (by simp)) _ _ er) (fun x hx=>by rw[ms hx];exact .inl HH.o.kd.km) this)
 have HX2:=hd (HX1.o.ext (Ext.setCells (S:=[R.A.mb]) (b:=R.A.mb) (.inl (by simp)) (ws.map (Value.int .i64)) lo (Ext.refl _ w1)) (by have:=HH.o.mem.main.lt;simp;omega));have qx2:=HX2.o.cell;have ql2:=HX2.o.lt;generalize hws:w1.setCells R.A.mb lo (ws.map (Value.int .i64))=w2 at *;clear hF hJ hws;go_wp2_with fail
 go_loopw [6] (fun i wr=>i=.int .i64 lo/\Hd (wr=w2)) (fun _ _=>0)
 case atStart=>exact⟨rfl,hd rfl⟩
 case round=>
  obtain⟨rfl,HW2⟩:=hrel;obtain rfl:=HW2.o;go_wp2_with fail
  go_end0
  exact⟨rfl,HE2.o,HC2.o⟩
theorem Ads {w:World}{R:RA}{m:Mc}{xs:List Ins}{S:MS}(h:Ak w R m xs S)(bk lo n hi b o cw:Nat)(ws:List Int)(hn:ws.length=n)(h1:1<=n)(hbk:bk<m.banks.toNat)(h2:lo+n<=m.bank.toNat)(hhi:hi=lo+n)(hsrc:∀j x,ws[j]? = some x->w.cell? ⟨b,o+j,none⟩=some (.int .i64 x)) :
  Calls prog 85 #[.pointer (some R.A.c),.agg #[bk,lo,hi],.slice (some ⟨b,o,none⟩) n cw] w (PutR [R.A.bk bk,R.A.sb bk] R m xs (S.put ⟨(bk:Nat),(lo:Nat),(n:Nat)⟩ ws) w):=by
 have hm:=Bc h.kd.ok;have hms:m.bank.toNat<=4096:=by omega
 have hbs:m.banks.toNat<=8:=by omega
 have HH:=hd h;have HN:=hd hn;have HS:=hd hsrc;have H2:=hd h2;have HHI:=hd hhi;have HBK:=hd hbk;obtain⟨MC,hMC⟩:∃M,m.bank.toNat=M:=⟨_,rfl⟩;have HMC:=hd hMC;obtain⟨BN,hBN⟩:∃M,m.banks.toNat=M:=⟨_,rfl⟩;have HBN:=hd hBN;have hbkZ:((bk:Nat):Int)<m.banks:=by omega
 rw[hMC] at h2 hms;rw[hBN] at hbk hbs;have hbI:((bk:Nat):Int)<(BN:Int):=by omega
 have hbg:(0:Int)<=((bk:Nat):Int):=by omega
 have hz1:(0:Int)<=(hi:Int):=by omega
 have hz2':(hi:Int)<=(MC:Int):=by omega
 have hz3:lo<=hi:=by omega
 have hz4:hi-lo=n:=by omega
 have hz5:(lo:Int)<=(hi:Int):=by omega
 have hz6:MC≠lo:=by omega
 have hn5:n<=524288:=by omega
 have hwv:Ht m R (bk:Nat)=.slice (some ⟨R.A.bk bk,0,none⟩) MC MC:=by unfold Ht;rw[ijn (by omega),hMC,Int.toNat_natCast]
 have HWD:=hd (fun W (hW:Ext [] w W)=>Mp (HH.o.nil hW) (bk:Nat) (.inr ⟨by omega,hbkZ⟩));rw[hwv] at HWD;clear h hn hsrc hm h2 hhi hMC hBN hwv hbkZ;have HX:=hd (Blk.new w 136 #[bk,lo,hi]);have HE0:=hd ((Ext.refl [] w).alloc (.cells #[bk,lo,hi] 136));go_enter func85,ntmps85
 go_upto_region 1 with fail
 generalize w.alloc (.cells #[bk,lo,hi] 136)=w0 at *;generalize hwl:w.heap.size=bl at *;refine rgE 10 [(3,Bv (.slice (some ⟨R.A.bk bk,0,none⟩) MC MC))] ?_
 simp only[TK]
 repeat(refine dE (fun wr nr hJ=>by(have qx:=HX.o.ext hJ (by simp);have qxc:=qx.cell;have qxl:=qx.lt;clear qx);clear hJ;exact CL) ?_;simp only[PT])
 refine Bj rfl rfl ?_ ?_
 ·apply Exists.intro
  apply Exists.intro
  refine⟨fun wr=>?_,fun wr nr hJ=>?_⟩
  ·go_simp
   first|exact⟨rfl,rfl⟩|rfl
  ·exact(by refine(HWD.o _ (HE0.o.trans hJ)).mono ?_;rintro e w' ⟨rfl,rfl⟩;exact⟨rfl,er⟩)
 simp only[PT]
 repeat(refine dE (fun wr nr hJ=>by(have qx:=HX.o.ext hJ (by simp);have qxc:=qx.cell;have qxl:=qx.lt;clear qx;have hC:=HH.o.nil (HE0.o.trans hJ);have qm:=(hC.mem.bank bk HBK.o).lt;clear hC);clear hJ;exact CL) ?_;simp only[PT])
 refine Aa (fun w1 hJ hF=>?_)
 have HE1:=hd (HE0.o.trans hJ);have HC1:=hd (HH.o.nil HE1.o)
 have hcp:∀ty,(Builtin.copy_ #[22,22] ty #[.slice (some ⟨R.A.bk bk,lo,none⟩) n (MC-lo),.slice (some ⟨b,o,none⟩) n cw]).run prog w1=.ok (goInt (n:Nat)) (w1.setCells (R.A.bk bk) lo (ws.map (Value.int .i64))):=fun ty=>by
  have hb:=HC1.o.mem.bank bk HBK.o
  have hr:=run_copy_cells (P:=prog) w1 22 22 ty 3 (R.A.bk bk) lo n (MC-lo) ⟨b,o,none⟩ n cw (ws.map (Value.int .i64)) underlying22 (by kernel_rfl) (by rw[List.length_map,HN.o];exact(Nat.min_self n).symm)
   (fun j v hv=>by
    rw[List.getElem?_map] at hv;cases hj:ws[j]? with
    | none=>rw[hj] at hv;cases hv
    | some y=>rw[hj] at hv;cases hv;rw[Addr.add_mk];exact HE1.o.held (HS.o j y hj) (by simp))
   (fun j hj=>by rw[hb.cell (by rw[List.length_map,HN.o] at hj;have:=H2.o;omega)];rfl)
   (fun j hj=>hb.frozen _)
   (fun v hv=>by obtain⟨y,_,rfl⟩:=List.mem_map.1 hv;rfl)
  rw[List.length_map,HN.o] at hr;exact hr
 have HX1:=hd (HX.o.ext hJ (by simp));have HE2:Hd (Ext [R.A.bk bk,R.A.sb bk] w (w1.setCells (R.A.bk bk) lo (ws.map (Value.int .i64)))):=hd (Ext.setCells (.inl (by simp)) _ _ HE1.o.nil)
 have HC2:Hd (Ak (w1.setCells (R.A.bk bk) lo (ws.map (Value.int .i64))) R m xs (S.putM ⟨(bk:Nat),(lo:Nat),(n:Nat)⟩ ws ((0:Nat):Int))):=hd (by
  have:=HC1.o.mem.putBank (S:=S) HH.o.kd bk HBK.o lo ws;rw[HN.o] at this;exact HC1.o.memT (Ext.setCells (S:=[R.A.bk bk]) (b:=R.A.bk bk) (.inl (by simp)) _ _ er) (fun x hx=>by rw[ms hx,HH.o.kd.kbk bk HBK.o];exact .inr (by omega)) this)
 have hxb:R.A.bk bk<w.heap.size/\R.A.sb bk<w.heap.size:=⟨(HH.o.mem.bank bk HBK.o).lt,(HH.o.mem.set bk HBK.o).lt⟩;have HX2:=hd (HX1.o.ext (Ext.setCells (S:=[R.A.bk bk]) (b:=R.A.bk bk) (.inl (by simp)) (ws.map (Value.int .i64)) lo (Ext.refl _ w1)) (by simp;omega));have qx2:=HX2.o.cell;have ql2:=HX2.o.lt;generalize hws:w1.setCells (R.A.bk bk) lo (ws.map (Value.int .i64))=w2 at *;clear hF hJ hws;go_wp2_with fail
 clear qx2 ql2;go_loopw [6] (fun i wr=>∃k:Nat,i=.int .i64 (lo+k:Nat)/\k<=n/\Hd (Ext [R.A.bk bk,R.A.sb bk] w wr)/\Hd (Blk wr bl 136 #[bk,lo,hi])/\Hd (Ak wr R m xs (S.putM ⟨(bk:Nat),(lo:Nat),(n:Nat)⟩ ws (k:Nat)))) (fun i _=>(hi-intOf i).toNat)
 case atStart=>exact⟨0,rfl,by omega,HE2,HX2,HC2⟩
 case round=>
  obtain⟨k,rfl,hk,HEk,HXk,HCk⟩:=hrel;rename World=>wk
  have qx:=HXk.o.cell;have qxl:=HXk.o.lt;by_cases hlt:k<n
  ·have hlk:((lo+k:Nat):Int)<(hi:Int):=by omega
   have hlm:((lo:Nat):Int)+((k:Nat):Int)<(MC:Int):=by omega
   have hsl:((lo:Int)+(k:Int)).toNat=lo+k:=by omega
   have hl0:(0:Int)<=(lo:Int)+(k:Int):=by omega
   go_upto_region 5 with fail
   refine rgE 10 [] ?_
   simp only[TK]
   repeat(refine dE (fun wr nr hJ=>by(have qx:=HXk.o.ext hJ (by simp);have qxc:=qx.cell;have qxl:=qx.lt;clear qx;have hC:=HCk.o.nil hJ;have q34:=hC.cell (i:=34) (by omega) (v:=.slice (some R.A.so) m.banks.toNat R.A.scap) rfl;rw[HBN.o] at q34;have qs:=hC.stat.sets.cell (i:=bk) HBK.o;rw[HMC.o] at qs;have ql:=hC.lt;have qsl:=hC.stat.sets.lt;clear hC);clear hJ;exact CL) ?_;simp only[PT])
   refine Aa (fun w4 hJ hF=>?_)
   have HC4:=hd (HCk.o.nil hJ);have HX4:=hd (HXk.o.ext hJ (by simp));have HE4:=hd (HEk.o.trans hJ.nil);have q1:=(HC4.o.mem.set bk HBK.o).cell (i:=lo+k) (by rw[HMC.o];omega);have q2:=(HC4.o.mem.set bk HBK.o).frozen (lo+k);have q3:=(HC4.o.mem.set bk HBK.o).lt;have hxne:bl≠R.A.sb bk:=by omega
   clear hF hJ;go_wp2_with fail
   go_roundw
   case rel=>exact⟨k+1,by go_num,by omega,hd (HE4.o.setCell (.inl (by simp)) _),hd (HX4.o.far hxne _),hd (HC4.o.memT (Ext.setCell (S:=[R.A.sb bk]) er (.inl (by simp)) _) (fun x hx=>by rw[ms hx,HH.o.kd.ksb bk HBK.o];exact .inr (by omega)) (Ms.putSet (S:=S) HH.o.kd bk HBK.o lo k n ws HC4.o.mem))⟩
   case measure=>simp[intOf];omega
  ·have hkn:k=n:=by omega
   subst hkn;go_wp2_with fail
   go_end0
   exact⟨rfl,HEk.o,HCk.o⟩
end
section
attribute [local irreducible] Ax
section
variable {w w':World} {A:CA} {R:RA} {m:Mc} {xs:List Ins} {S:MS} {T:List Nat}
theorem Ak.queT (h:Ak w R m xs S)(hE:Ext [R.A.qb] w w')(q':Int->Option Tr)(ta:Int->Option Addr)(tc:Int->Nat)(hq:RQ w' {R with A:={R.A with ta:=ta,tc:=tc } } {S with q:=q' }):Ak w' {R with A:={R.A with ta:=ta,tc:=tc } } m xs {S with q:=q' }:=by
 have hT:∀x∈[R.A.qb],R.A.kd x=4:=fun x hx=>by rw[ms hx];exact h.kd.kq
 have hs:=h.stat.ext h.kd hE (fun x hx=>by have:=hT x hx;omega);have hm:=h.mem.ext h.kd hE (fun x hx=>by have:=hT x hx;omega);have hv:=h.vec.ext h.kd hE (fun x hx=>by have:=hT x hx;omega);have hl:=h.loops.ext hE (fun x hx=>by have:=hT x hx;omega);have hf:=h.flt.ext hE (fun x hx=>by have:=hT x hx;omega);exact {ref:=h.ref.ext hE (fun hm=>by have h0:=hT _ hm;have h1:=h.kd.kc;omega),stat:=⟨hs.code,hs.banks,hs.sets,hs.mcap⟩,mem:=⟨hm.main,hm.bank,hm.set⟩,que:=hq,loops:=hl,vec:=⟨hv.v,hv.wo,hv.wt,hv.wcap,hv.acc,hv.ak⟩,flt:=hf,kd:=⟨h.kd.ok,h.kd.kc,h.kd.km,h.kd.kb,h.kd.ks,h.kd.kq,h.kd.ke,h.kd.ko,h.kd.kbk,h.kd.ksb⟩ }
theorem Ak.dropQ (h:Ak w R m xs S)(d:Int)(hE:Ext [R.A.qb] w w')(hM:Hg w' R.A.qb (Be (tf R S) d none)):Ak w' R m xs {S with q:=Be S.q d none }:=by
 have hT:∀x∈[R.A.qb],R.A.kd x=4:=fun x hx=>by rw[ms hx];exact h.kd.kq
 refine h.queT hE (Be S.q d none) R.A.ta R.A.tc ⟨?_,fun q t hq=>?_⟩
 ·have e:tf R {S with q:=Be S.q d none }=Be (tf R S) d none:=by
   funext i
   unfold tf;dsimp only;by_cases hi:i=d
   ·subst hi;rw[Bt,Bt];rfl
   ·rw[Cw _ _ hi,Cw _ _ hi]
  show Hg w' R.A.qb (tf R {S with q:=Be S.q d none })
  rw[e];exact hM
 ·dsimp only at hq;have hqd:q≠d:=fun e=>by subst e;rw[Bt] at hq;cases hq
  rw[Cw _ _ hqd] at hq;obtain⟨h1,h2,h3⟩:=h.que.words q t hq;exact⟨h1.ext hE (fun a ha hm=>by have h0:=hT _ hm;have:=h3 a ha;omega),h2,fun a ha=>⟨(h3 a ha).1,nl (h3 a ha).2 hE.size⟩⟩
end
def Nc (R:RA)(m:Mc)(xs:List Ins)(S:MS)(w:World)(e:Ending)(w':World):Prop:=e=.returned (.tuple #[])/\Aj R.A w w'/\Ak w' R m xs S
theorem Oq {w:World}{R:RA}{m:Mc}{xs:List Ins}{S:MS}(h:Ak w R m xs S)(a:Ar)(ws:List Int)(b o cw:Nat)(ha:Su m a)(hl:(ws.length:Int)=a.size)(hsrc:∀j x,ws[j]? = some x->w.cell? ⟨b,o+j,none⟩=some (.int .i64 x)) :
  Calls prog 85 #[.pointer (some R.A.c),.agg #[.int .i64 a.bank,.int .i64 a.lo,(a.lo+a.size)],.slice (some ⟨b,o,none⟩) ws.length cw] w (Nc R m xs (S.put a ws) w):=by
 obtain⟨ab,al,az⟩:=a;obtain⟨h1,h2,h3,h4⟩:=ha;dsimp only at h1 h2 h3 h4 hl⊢;have hm:=Bc h.kd.ok;obtain⟨lo,rfl⟩:∃n:Nat,al=n:=⟨al.toNat,by omega⟩;subst hl;rw[show((lo:Nat):Int)+((ws.length:Nat):Int)=((lo+ws.length:Nat):Int) by omega];have hsb:1<=ws.length:=by omega
 unfold Bn at h4;rcases h1 with rfl|⟨hb0,hb1⟩
 ·rw[ijp (by omega)] at h4;refine(Adr h lo ws.length _ b o cw ws rfl hsb (by omega) rfl hsrc).mono ?_
  rintro e w' ⟨h5,h6,h7⟩;exact⟨h5,Aj.of h6 (fun x hx=>by rw[ms hx,h.kd.km];omega),h7⟩
 ·rw[ijn (by omega)] at h4;obtain⟨bk,rfl⟩:∃n:Nat,ab=n:=⟨ab.toNat,by omega⟩;have hbk:bk<m.banks.toNat:=by omega
  refine(Ads h bk lo ws.length _ b o cw ws rfl hsb hbk (by omega) rfl hsrc).mono ?_
  rintro e w' ⟨h5,h6,h7⟩;have k1:=h.kd.kbk bk hbk;have k2:=h.kd.ksb bk hbk;exact⟨h5,Aj.of h6 (fun x hx=>by simp at hx;rcases hx with rfl|rfl<;>omega),h7⟩
theorem Aak {w:World}{R:RA}{m:Mc}{xs:List Ins}{S:MS}(h:Ak w R m xs S)(d:Nat)(hd':d<=3)(hq:S.q (d:Nat)=none) :
  Calls prog 49 #[.pointer (some R.A.c),d] w (Nc R m xs (S.wait (d:Nat)) w):=by
 have HH:=hd h;have HW:Hd (S.wait (d:Nat)=S):=hd (by unfold MS.wait;rw[hq]);rw[HW.o];have q35:=h.cell (i:=35) (by omega) (v:=.map (some R.A.qb)) rfl;have ql:=h.lt;have hlk:=h.que.map.look (d:Nat) (by omega);have htf:tf R S (d:Nat)=none:=by unfold tf;rw[hq];rfl
 rw[htf] at hlk;simp only[Option.getD_none,Option.isSome_none,zTr] at hlk;clear h hq htf;go_enter func49,ntmps49
 go_wp2_with fail
 go_end0
 exact⟨rfl,Aj.of ((Ext.refl [] _).alloc _) (by simp),HH.o.nil (er.alloc _)⟩
theorem Aal {w:World}{R:RA}{m:Mc}{xs:List Ins}{S:MS}(h:Ak w R m xs S)(hw:WfM m S)(d:Nat)(hd':d<=3)(t:Tr)(hq:S.q (d:Nat)=some t) :
  Calls prog 49 #[.pointer (some R.A.c),d] w (Nc R m xs (S.wait (d:Nat)) w):=by
 have HH:=hd h;obtain⟨_,_,htr⟩:=hw.q _ _ hq;have HTR:=hd htr;obtain⟨hwd,-,-⟩:=h.que.words _ _ hq
 obtain⟨b,o,hta,hcw⟩:∃b o,R.A.ta (d:Nat)=some ⟨b,o,none⟩/\∀j x,t.words[j]? = some x->w.cell? ⟨b,o+j,none⟩=some (.int .i64 x):=by
  rcases hwd with h0|h0
  ·have h1:=htr.dst.2.1;have h2:=htr.len;rw[h0] at h2;simp at h2;omega
  ·exact h0
 have hkw:R.A.kd b=8:=by
  obtain⟨_,_,h3⟩:=h.que.words _ _ hq;exact(h3 _ hta).1
 have HKW:=hd hkw;have HCW:=hd hcw;obtain⟨⟨sb,sl,ss⟩,⟨db,dl,ds⟩,tw,rdy⟩:=t;obtain⟨M,hM⟩:∃M,M=max S.cyc rdy:=⟨_,rfl⟩;have hWT:S.wait (d:Nat)=(({({S with cyc:=M }:MS) with q:=Be S.q (d:Nat) none }:MS).put ⟨db,dl,ds⟩ tw):=by unfold MS.wait;rw[hq,hM];rfl
 rw[hWT];have hmx:=hM.symm;have htf:tf R S (d:Nat)=some (Nb ⟨⟨sb,sl,ss⟩,⟨db,dl,ds⟩,tw,rdy⟩ (some ⟨b,o,none⟩) (R.A.tc (d:Nat))):=by unfold tf;rw[hq,<-hta];rfl
 have HTF:=hd htf;obtain⟨dt,hdt⟩:∃x,x=dl+ds:=⟨_,rfl⟩;obtain⟨st',hst⟩:∃x,x=sl+ss:=⟨_,rfl⟩;have HDT:=hd hdt;have hlk:=h.que.map.look (d:Nat) (by omega);rw[htf] at hlk;simp only[Option.getD_some,Option.isSome_some,Nb] at hlk;rw[<-hdt,<-hst] at hlk;have q35:=h.cell (i:=35) (by omega) (v:=.map (some R.A.qb)) rfl;have ql:=h.lt;have HE0:=hd ((Ext.refl [] w).alloc (.cells #[sb,sl,st',db,dl,dt,.slice (some ⟨b,o,none⟩) tw.length (R.A.tc (d:Nat)),rdy] 138));have HX0:=hd (Blk.new w 138 #[sb,sl,st',db,dl,dt,.slice (some ⟨b,o,none⟩) tw.length (R.A.tc (d:Nat)),rdy]);clear h hw hq htf hdt hst hWT hM htr hwd hcw hkw hta;go_enter func49,ntmps49
 go_upto_region 2 with fail
 clear q35 ql hlk;generalize w.alloc (.cells #[sb,sl,st',db,dl,dt,.slice (some ⟨b,o,none⟩) tw.length (R.A.tc (d:Nat)),rdy] 138)=w0 at *;generalize hwl:w.heap.size=bl at *;refine rgE 10 [] ?_
 simp only[TK]
 repeat(refine dE (fun wr nr hJ=>by(have hC:=HH.o.nil (HE0.o.trans hJ);have q38:=hC.cell (i:=38) (by omega) (v:=S.cyc) rfl;have ql:=hC.lt;have qx:=HX0.o.ext hJ (by simp);have qxc:=qx.cell;have qxl:=qx.lt;clear qx hC);clear hJ;exact CL) ?_;simp only[PT])
 refine Aa (fun w1 hJ hF=>?_)
 have HC1:=hd (HH.o.nil (HE0.o.trans hJ));have HX1:=hd (HX0.o.ext hJ (by simp));have HE1:=hd (HE0.o.trans hJ);have HC2:=hd (HC1.o.setCyc M);have hcl:=HH.o.lt;have HE2:Hd (Ext [R.A.c] w (w1.setCell ⟨R.A.c,38,none⟩ M)):=hd (HE1.o.nil.setCell (.inl (by simp)) _);have HX2:=hd (HX1.o.far (p:=⟨R.A.c,38,none⟩) (by show bl≠R.A.c;omega) (.int .i64 M));have q38:=HC1.o.cell (i:=38) (by omega) (v:=S.cyc) rfl;have q38f:=HC1.o.ref.frozen 38;have q38l:=HC1.o.lt;clear hF hJ;go_upto_region 3 with fail
 clear q38 q38f q38l;generalize w1.setCell ⟨R.A.c,38,none⟩ M=w2 at *;have q35:=HC2.o.cell (i:=35) (by omega) (v:=.map (some R.A.qb)) rfl;have q35l:=HC2.o.lt;have HTM:=hd HC2.o.que.map
 go_wp2_with (
  at_delete;refine Pc _ rfl _ _ rfl R.A.qb (tf R {S with cyc:=M }) rfl HTM.o d rfl (by omega) ?_
  intro w3 hT3 hE3;have HT3:=hd hT3;have HE3:=hd hE3;have HX3:=hd (HX2.o.ext hE3 (by have:=HTM.o.apart HX2.o;simp;omega));have qx3:=HX3.o.cell;have qxl3:=HX3.o.lt;clear hT3 hE3)
 have HC3:=hd (HC2.o.dropQ (d:Nat) HE3.o HT3.o);have HEc:Hd (Aj R.A w w3):=hd ((Aj.of HE2.o (fun x hx=>by rw[ms hx,HH.o.kd.kc];omega)).trans (Aj.of HE3.o (fun x hx=>by rw[ms hx,HH.o.kd.kq];omega)));have hk4:=HH.o.kd.kq;have hk0:=HH.o.kd.kc;have hkb:=HKW.o;have hpt:=Oq HC3.o ⟨db,dl,ds⟩ tw b o (R.A.tc (d:Nat)) HTR.o.dst HTR.o.len (fun j x hj=>HE3.o.held (HE2.o.held (HCW.o j x hj) (by simp;intro e;rw[e] at hkb;omega)) (by simp;intro e;rw[e] at hkb;omega));dsimp only at hpt;rw[<-HDT.o] at hpt;refine hpt.mono ?_
 rintro e w4 ⟨rfl,hE4,hR4⟩;have HE4:=hd (HEc.o.trans hE4);have HR4:=hd hR4;clear hE4 hR4 hpt qx3 qxl3 q35 q35l;go_wp2_with fail
 go_end0
 exact⟨rfl,HE4.o,HR4.o⟩
theorem Iu {w:World}{R:RA}{m:Mc}{xs:List Ins}{S:MS}(h:Ak w R m xs S)(hw:WfM m S)(d:Nat)(hd':d<=3) :
  Calls prog 49 #[.pointer (some R.A.c),d] w (Nc R m xs (S.wait (d:Nat)) w):=by
 cases hq:S.q (d:Nat) with
 | none=>exact Aak h d hd' hq
 | some t=>exact Aal h hw d hd' t hq
end
section
attribute [local irreducible] Ax
theorem Gl:∀st:List (Nat×Int),(Jp st).length=st.length*2
 | []=>rfl
 | (s,i) :: st=>by simp[Jp,Gl st];omega
section
variable {w w':World} {A:CA} {R:RA} {m:Mc} {xs:List Ins} {S:MS} {T:List Nat}
theorem RL.top {s:Nat}{i:Int}{st:List (Nat×Int)}(h:RL w A ((s,i) :: st)) :
  ∃g cap:Nat,A.lv=.slice (some g) (st.length+1) cap/\st.length+1<=cap/\g<w.heap.size/\A.kd g=7/\w.cell? ⟨g,st.length*2,none⟩=some (.int .i64 (s:Int))/\w.cell? ⟨g,st.length*2+1,none⟩=some (.int .i64 i)/\∀j,w.frozen? ⟨g,j,none⟩=false:=by
 obtain⟨h1,h2⟩:=h;rcases h1.2 with⟨hv,hx⟩|⟨g,c,cur,hv,hb,hg,hc,hs,hp⟩
 ·simp at hx
 ·have hB:Blk w g 100 cur:=hg;have hcell:=h1.cells (g:=g) (by rw[hv];rfl);have hl:=Gl st;have f:=fun j u (hu:(Jp ((s,i) :: st))[j]? = some u)=>by have:=hcell j u hu;rw[Addr.add_mk,Nat.zero_add] at this;exact this
  refine⟨g,c,hv,by simpa using hc,hB.lt,h2 g (by rw[hv];rfl),f _ _ ?_,f _ _ ?_,hB.frozen⟩
  ·show(Jp st ++ _)[_]? = _
   rw[List.getElem?_append_right (by omega),hl,Nat.sub_self];rfl
  ·show(Jp st ++ _)[_]? = _
   rw[List.getElem?_append_right (by omega),hl,show st.length*2+1-st.length*2=1 by omega];rfl
theorem RL.setTop {s:Nat}{i:Int}{st:List (Nat×Int)}(h:RL w A ((s,i) :: st))(g cap:Nat)(hlv:A.lv=.slice (some g) (st.length+1) cap)(j:Int):RL (w.setCell ⟨g,st.length*2+1,none⟩ j) A ((s,j) :: st):=by
 obtain⟨⟨h0,h1⟩,h2⟩:=h;refine⟨⟨by simp[Gl],?_⟩,h2⟩
 rcases h1 with⟨hv,hx⟩|⟨g',c,cur,hv,hb,hg,hc,hm,hs,hp⟩
 ·rw[hlv] at hv;cases hv
 ·have hv':=hv;rw[hlv] at hv;injection hv with e1 e2 e3;injection e1 with e1;injection e1 with e1;subst e1;have hB:Blk w g 100 cur:=hg;refine .inr ⟨g,c,_,hv',hb,hB.set_ (st.length*2+1) _,hc,hm,by simpa using hs,?_⟩
  have hl:=Gl st;simp only[List.length_cons] at hc hp⊢;have hp2:cur.toList.take ((st.length+1)*2)=Jp st ++ [.int .i64 (s:Int),.int .i64 i]:=hp;show(cur.setIfInBounds (st.length*2+1) _).toList.take ((st.length+1)*2)=Jp st ++ [.int .i64 (s:Int),.int .i64 j]
  rw[Array.toList_setIfInBounds,List.take_set,hp2,List.set_append,ijn (by omega),hl,show st.length*2+1-st.length*2=1 by omega];rfl
theorem RL.pop {s:Nat}{i:Int}{st:List (Nat×Int)}(h:RL w A ((s,i) :: st))(g cap:Nat)(hlv:A.lv=.slice (some g) (st.length+1) cap):RL w {A with lv:=.slice (some g) st.length cap } st:=by
 obtain⟨⟨h0,h1⟩,h2⟩:=h;refine⟨⟨Gl st,?_⟩,fun g' hg'=>h2 g' (by rw[hlv];exact hg')⟩
 rcases h1 with⟨hv,hx⟩|⟨g',c,cur,hv,hb,hg,hc,hm,hs,hp⟩
 ·rw[hlv] at hv;cases hv
 ·rw[hlv] at hv;injection hv with e1 e2 e3;injection e1 with e1;injection e1 with e1;subst e1 e3;have hl:=Gl st;simp only[List.length_cons] at hc hp;refine .inr ⟨g,cap,cur,rfl,hb,hg,by omega,hm,hs,?_⟩
  have hp2:cur.toList.take ((st.length+1)*2)=Jp st ++ [.int .i64 (s:Int),.int .i64 i]:=hp;have:=congrArg (List.take (st.length*2)) hp2;rw[List.take_take,Nat.min_eq_left (by omega),List.take_append_of_le_length (by omega),List.take_of_length_le (l:=Jp st) (by omega)] at this;exact this
theorem Ahl (m:Mc)(R:RA)(S:MS)(n:Nat)(lv:Value)(st:List (Nat×Int)){j:Nat}(hj:j≠36):rmF m R S n j=rmF m {R with A:={R.A with lv:=lv } } {S with turns:=st } n j:=by
 unfold rmF;rw[ijn (c:=j=36) hj,ijn (c:=j=36) hj];rfl
theorem RL.own (h:RL w A S.turns):∀g,A.lv.ownBlock=some g->g<w.heap.size:=fun g hg=>(h.1.lt g hg).2
theorem Ak.setLv (h:Ak w R m xs S)(hE:Ext T w w')(hT:∀x∈T,R.A.kd x=7)(lv:Value)(st:List (Nat×Int))(hl:RL w' {R.A with lv:=lv } st) :
  Ak (w'.setCell ⟨R.A.c,36,none⟩ lv) {R with A:={R.A with lv:=lv } } m xs {S with turns:=st }:=by
 have hE2:Ext [R.A.c] w' (w'.setCell ⟨R.A.c,36,none⟩ lv):=er.setCell (.inl (by simp)) _;have hT2:∀x∈[R.A.c],R.A.kd x=0:=fun x hx=>by rw[ms hx];exact h.kd.kc
 have hEE:Ext (R.A.c :: T) w (w'.setCell ⟨R.A.c,36,none⟩ lv):=(hE.mono (fun x hx=>.inl (by simp[hx]))).trans (hE2.mono (fun x hx=>.inl (by simp at hx;simp[hx])))
 have hTT:∀x∈R.A.c :: T,R.A.kd x=0\/R.A.kd x=7:=fun x hx=>by
  rcases List.mem_cons.1 hx with rfl|hx
  ·exact .inl h.kd.kc
  ·exact .inr (hT x hx)
 have st':=h.stat.ext h.kd hEE (fun x hx=>by have:=hTT x hx;omega);have me':=h.mem.ext h.kd hEE (fun x hx=>by have:=hTT x hx;omega);have qu':=h.que.ext h.kd hEE (fun x hx=>by have:=hTT x hx;omega);have ve':=h.vec.ext h.kd hEE (fun x hx=>by have:=hTT x hx;omega);have fl':=h.flt.ext hEE (fun x hx=>by have:=hTT x hx;omega);have hc1:=h.ref.ext hE (fun hm=>by have h0:=hT _ hm;have h1:=h.kd.kc;omega);refine⟨hc1.set_' 36 lv _ (Ic 36 (fun j _ hj=>Ahl m R S _ lv st hj) (fun _=>rfl)),⟨st'.code,st'.banks,st'.sets,st'.mcap⟩,⟨me'.main,me'.bank,me'.set⟩,⟨qu'.map,qu'.words⟩,?_,⟨ve'.v,ve'.wo,ve'.wt,ve'.wcap,ve'.acc,ve'.ak⟩,fl',⟨h.kd.ok,h.kd.kc,h.kd.km,h.kd.kb,h.kd.ks,h.kd.kq,h.kd.ke,h.kd.ko,h.kd.kbk,h.kd.ksb⟩⟩
 refine⟨An hl.1 hE2 (fun g hg hm=>?_),hl.2⟩
 have h0:=hT2 _ hm;have h1:R.A.kd g=7:=hl.2 g hg;omega
theorem Ak.setTop (h:Ak w R m xs S){s:Nat}{i:Int}{st:List (Nat×Int)}(ht:S.turns=(s,i) :: st)(g cap:Nat)(hlv:R.A.lv=.slice (some g) (st.length+1) cap)(j:Int) :
  Ak (w.setCell ⟨g,st.length*2+1,none⟩ j) R m xs {S with turns:=(s,j) :: st }:=by
 have hg:R.A.kd g=7:=h.loops.2 g (by rw[hlv];rfl);have hE:Ext [g] w (w.setCell ⟨g,st.length*2+1,none⟩ j):=er.setCell (.inl (by simp)) _;have hT:∀x∈[g],R.A.kd x=7:=fun x hx=>by rw[ms hx];exact hg
 have hl:=h.loops;rw[ht] at hl;have qu':=h.que.ext h.kd hE (fun x hx=>by have:=hT x hx;omega);have ve':=h.vec.ext h.kd hE (fun x hx=>by have:=hT x hx;omega);exact⟨h.ref.ext hE (fun hm=>by have h0:=hT _ hm;have h1:=h.kd.kc;omega),h.stat.ext h.kd hE (fun x hx=>by have:=hT x hx;omega),h.mem.ext h.kd hE (fun x hx=>by have:=hT x hx;omega),⟨qu'.map,qu'.words⟩,hl.setTop g cap hlv j,⟨ve'.v,ve'.wo,ve'.wt,ve'.wcap,ve'.acc,ve'.ak⟩,h.flt.ext hE (fun x hx=>by have:=hT x hx;omega),h.kd⟩
end
set_option maxRecDepth 4000
theorem Fj (n:Int)(w:World):Calls prog 92 #[n] w fun e w'=>e=.returned (.int .i64 (w32 n))/\w=w':=by
 go_enter func92,ntmps92
 go_wp2_with fail
 go_ret
 exact⟨Ai (by unfold wrap64 wrap32 w32;omega),rfl⟩
set_option maxRecDepth 100000
theorem Rp {w:World}{R:RA}{m:Mc}{xs:List Ins}{S:MS}(h:Ak w R m xs S)(hc:Bh m 0 xs=0)(hl:xs.length<=100000)(s:Nat)(hs:s<xs.length) :
  Calls prog 91 #[.pointer (some R.A.c),s] w fun e w'=>e=.returned (.int .i64 ((cnt xs xs.length (s+1)).2:Nat))/\Ext [] w w':=by
 have HEX:=hd (Oa R.A.code R.A.ccap xs hl (Hc hc) xs.length xs.length (s+1) w (Nat.le_refl _) hl (by omega) (by omega) h.stat.code);have q5:=h.cell (i:=5) (by omega) (v:=.slice R.A.code xs.length R.A.ccap) rfl;have ql:=h.lt;clear h hc;go_enter func91,ntmps91
 go_wp2_with fail
 refine HEX.o.mono ?_
 rintro e w' ⟨rfl,hE⟩;have HE:=hd hE;clear hE q5 ql;go_wp2_with fail
 go_ret
 exact⟨rfl,HE.o⟩
end
section
attribute [local irreducible] Ax
def Src (A:Option Addr)(l c:Nat):Prop:=(A=none/\l=0/\c=0)\/(0<l/\l<=c/\∃b,A=some ⟨b,0,none⟩)
theorem Src.nil:Src none 0 0:=.inl ⟨rfl,rfl,rfl⟩
theorem Src.one (b:Nat):Src (some ⟨b,0,none⟩) 1 1:=.inr ⟨by decide,by decide,b,rfl⟩
def TyA (w:World)(A:Option Addr):Prop:=∀a,A=some a->∃C,Blk w a.block 136 C
theorem TyA.nil {w:World}:TyA w none:=fun a h=>by cases h
theorem TyA.one {w:World}{b o:Nat}{C:Array Value}(h:Blk w b 136 C):TyA w (some ⟨b,o,none⟩):=fun a ha=>by cases ha;exact⟨C,h⟩
theorem TyA.ext {w w':World}{A:Option Addr}{T:List Nat}(h:TyA w A)(hE:Ext T w w')(hT:∀a,A=some a->a.block∉T):TyA w' A:=fun a ha=>by
 obtain⟨C,hC⟩:=h a ha;exact⟨C,hC.ext hE (hT a ha)⟩
def Ka (m:Mc)(S:MS)(x:Ins)(w:World)(e:Ending)(w':World):Prop:=
 ∃(Ar:Option Addr) (lr cr:Nat) (Aw:Option Addr) (lw cw:Nat),e=.returned (.tuple #[.slice Ar lr cr,.slice Aw lw cw])/\(Ae m S x).length=lr/\(Ab m S x).length=lw/\Ext [] w w'/\RdB w' Ar (Ae m S x)/\RdB w' Aw (Ab m S x)/\Src Ar lr cr/\Src Aw lw cw/\TyA w' Ar/\TyA w' Aw
structure Kb (w:World)(R:RA)(m:Mc)(xs:List Ins)(S:MS)(a b:Nat)(xn xm:Int):Prop where
 ref:Ak w R m xs S
 wf:WfM m S
 a:a<16
 b:b<16
 n:isW xn
 mm:isW xm
theorem Tf {w:World}{R:RA}{m:Mc}{xs:List Ins}{S:MS}(xo xk xd xc xp xn xm:Int)(a b:Nat)(h:Kb w R m xs S a b xn xm)(hx:xo≠5/\xo≠6/\xo≠7/\xo≠8/\xo≠9/\xo≠10/\xo≠14/\xo≠18) :
  Calls prog 50 #[.pointer (some R.A.c),.agg #[xo,xk,xd,a,b,xc,xp,xn,xm]] w (Ka m S ⟨xo,xk,xd,a,b,xc,xp,xn,xm⟩ w):=by
 have HH:=hd h;have ha:=h.a;have hb:=h.b;have hn:=h.n;have hmm:=h.mm;have hmc:=Bc h.ref.kd.ok;have haZ:((a:Nat):Int)<16:=by omega
 have hbZ:((b:Nat):Int)<16:=by omega
 have HX:=hd (Blk.new w 76 #[xo,xk,xd,a,b,xc,xp,xn,xm]);have HE0:=hd ((Ext.refl [] w).alloc (.cells #[xo,xk,xd,a,b,xc,xp,xn,xm] 76));have hn5:(xo==5)=false:=by simp;omega
 have hn6:(xo==6)=false:=by simp;omega
 have hn7:(xo==7)=false:=by simp;omega
 have hn8:(xo==8)=false:=by simp;omega
 have hn9:(xo==9)=false:=by simp;omega
 have hn10:(xo==10)=false:=by simp;omega
 have hn14:(xo==14)=false:=by simp;omega
 have hn18:(xo==18)=false:=by simp;omega
 have HXX:=hd hx;clear hx;have q3:=(HH.o.ref.nil HE0.o).cell (i:=3) (by omega) (v:=m.lanes) rfl;have ql:=(HH.o.ref.nil HE0.o).lt;clear h;go_enter func50,ntmps50
 go_wp2_with fail
 go_ret2
 exact⟨none,0,0,none,0,0,rfl,by simp[Ae,HXX.o],by simp[Ab,HXX.o],HE0.o,.inl (by simp[Ae,HXX.o]),.inl (by simp[Ab,HXX.o]),Src.nil,Src.nil,TyA.nil,TyA.nil⟩
theorem Aam {w:World}{R:RA}{m:Mc}{xs:List Ins}{S:MS}(xk xd xc xp xn xm:Int)(a b:Nat)(h:Kb w R m xs S a b xn xm) :
  Calls prog 50 #[.pointer (some R.A.c),.agg #[(5:Int),xk,xd,a,b,xc,xp,xn,xm]] w (Ka m S ⟨5,xk,xd,a,b,xc,xp,xn,xm⟩ w):=by
 have HH:=hd h;have ha:=h.a;have hb:=h.b;have hn:=h.n;have hmm:=h.mm;have hmc:=Bc h.ref.kd.ok;have haZ:((a:Nat):Int)<16:=by omega
 have hbZ:((b:Nat):Int)<16:=by omega
 have HX:=hd (Blk.new w 76 #[(5:Int),xk,xd,a,b,xc,xp,xn,xm]);have HE0:=hd ((Ext.refl [] w).alloc (.cells #[(5:Int),xk,xd,a,b,xc,xp,xn,xm] 76));have HAR:=hd (fun W (hW:Ext [] w W)=>Ie (h.ref.nil hW) h.wf 5 xk xd b xc xp xn xm a ha hn (-1) 1 (by omega));have q3:=(HH.o.ref.nil HE0.o).cell (i:=3) (by omega) (v:=m.lanes) rfl;have ql:=(HH.o.ref.nil HE0.o).lt;clear h;go_enter func50,ntmps50
 go_wp2_with fail
 clear q3 ql;refine(HAR.o _ HE0.o).mono ?_
 rintro e w1 ⟨rfl,hE1⟩;have HE1:=hd hE1;clear hE1;go_wp2_with fail
 go_ret2
 have er:Ae m S ⟨5,xk,xd,a,b,xc,xp,xn,xm⟩=[⟨(-1),S.r (a:Nat)+xn,1⟩]:=by simp[Ae]
 have ew:Ab m S ⟨5,xk,xd,a,b,xc,xp,xn,xm⟩=[]:=by simp[Ab]
 exact⟨_,1,1,none,0,0,rfl,by rw[er];rfl,by rw[ew];rfl,(HE0.o.trans HE1.o).alloc _,by rw[er];exact RdB.one (Blk.new _ _ _) rfl rfl rfl,.inl ew,Src.one _,Src.nil,TyA.one (Blk.new _ _ _),TyA.nil⟩
theorem Aan {w:World}{R:RA}{m:Mc}{xs:List Ins}{S:MS}(xk xd xc xp xn xm:Int)(a b:Nat)(h:Kb w R m xs S a b xn xm) :
  Calls prog 50 #[.pointer (some R.A.c),.agg #[(6:Int),xk,xd,a,b,xc,xp,xn,xm]] w (Ka m S ⟨6,xk,xd,a,b,xc,xp,xn,xm⟩ w):=by
 have HH:=hd h;have ha:=h.a;have hb:=h.b;have hn:=h.n;have hmm:=h.mm;have hmc:=Bc h.ref.kd.ok;have haZ:((a:Nat):Int)<16:=by omega
 have hbZ:((b:Nat):Int)<16:=by omega
 have HX:=hd (Blk.new w 76 #[(6:Int),xk,xd,a,b,xc,xp,xn,xm]);have HE0:=hd ((Ext.refl [] w).alloc (.cells #[(6:Int),xk,xd,a,b,xc,xp,xn,xm] 76));have HAR:=hd (fun W (hW:Ext [] w W)=>Ie (h.ref.nil hW) h.wf 6 xk xd b xc xp xn xm a ha hn (-1) 1 (by omega));have q3:=(HH.o.ref.nil HE0.o).cell (i:=3) (by omega) (v:=m.lanes) rfl;have ql:=(HH.o.ref.nil HE0.o).lt;clear h;go_enter func50,ntmps50
 go_wp2_with fail
 clear q3 ql;refine(HAR.o _ HE0.o).mono ?_
 rintro e w1 ⟨rfl,hE1⟩;have HE1:=hd hE1;clear hE1;go_wp2_with fail
 go_ret2
 have er:Ae m S ⟨6,xk,xd,a,b,xc,xp,xn,xm⟩=[]:=by simp[Ae]
 have ew:Ab m S ⟨6,xk,xd,a,b,xc,xp,xn,xm⟩=[⟨(-1),S.r (a:Nat)+xn,1⟩]:=by simp[Ab]
 exact⟨none,0,0,_,1,1,rfl,by rw[er];rfl,by rw[ew];rfl,(HE0.o.trans HE1.o).alloc _,.inl er,by rw[ew];exact RdB.one (Blk.new _ _ _) rfl rfl rfl,Src.nil,Src.one _,TyA.nil,TyA.one (Blk.new _ _ _)⟩
theorem Aao {w:World}{R:RA}{m:Mc}{xs:List Ins}{S:MS}(xk xd xc xp xn xm:Int)(a b:Nat)(h:Kb w R m xs S a b xn xm) :
  Calls prog 50 #[.pointer (some R.A.c),.agg #[(7:Int),xk,xd,a,b,xc,xp,xn,xm]] w (Ka m S ⟨7,xk,xd,a,b,xc,xp,xn,xm⟩ w):=by
 have HH:=hd h;have ha:=h.a;have hb:=h.b;have hn:=h.n;have hmm:=h.mm;have hmc:=Bc h.ref.kd.ok;have haZ:((a:Nat):Int)<16:=by omega
 have hbZ:((b:Nat):Int)<16:=by omega
 have HX:=hd (Blk.new w 76 #[(7:Int),xk,xd,a,b,xc,xp,xn,xm]);have HE0:=hd ((Ext.refl [] w).alloc (.cells #[(7:Int),xk,xd,a,b,xc,xp,xn,xm] 76));have HAR:=hd (fun W (hW:Ext [] w W)=>Ie (h.ref.nil hW) h.wf 7 xk xd b xc xp xn xm a ha hn xc 1 (by omega));have q3:=(HH.o.ref.nil HE0.o).cell (i:=3) (by omega) (v:=m.lanes) rfl;have ql:=(HH.o.ref.nil HE0.o).lt;clear h;go_enter func50,ntmps50
 go_wp2_with fail
 clear q3 ql;refine(HAR.o _ HE0.o).mono ?_
 rintro e w1 ⟨rfl,hE1⟩;have HE1:=hd hE1;clear hE1;go_wp2_with fail
 go_ret2
 have er:Ae m S ⟨7,xk,xd,a,b,xc,xp,xn,xm⟩=[⟨xc,S.r (a:Nat)+xn,1⟩]:=by simp[Ae]
 have ew:Ab m S ⟨7,xk,xd,a,b,xc,xp,xn,xm⟩=[]:=by simp[Ab]
 exact⟨_,1,1,none,0,0,rfl,by rw[er];rfl,by rw[ew];rfl,(HE0.o.trans HE1.o).alloc _,by rw[er];exact RdB.one (Blk.new _ _ _) rfl rfl rfl,.inl ew,Src.one _,Src.nil,TyA.one (Blk.new _ _ _),TyA.nil⟩
theorem Aap {w:World}{R:RA}{m:Mc}{xs:List Ins}{S:MS}(xk xd xc xp xn xm:Int)(a b:Nat)(h:Kb w R m xs S a b xn xm) :
  Calls prog 50 #[.pointer (some R.A.c),.agg #[(8:Int),xk,xd,a,b,xc,xp,xn,xm]] w (Ka m S ⟨8,xk,xd,a,b,xc,xp,xn,xm⟩ w):=by
 have HH:=hd h;have ha:=h.a;have hb:=h.b;have hn:=h.n;have hmm:=h.mm;have hmc:=Bc h.ref.kd.ok;have haZ:((a:Nat):Int)<16:=by omega
 have hbZ:((b:Nat):Int)<16:=by omega
 have HX:=hd (Blk.new w 76 #[(8:Int),xk,xd,a,b,xc,xp,xn,xm]);have HE0:=hd ((Ext.refl [] w).alloc (.cells #[(8:Int),xk,xd,a,b,xc,xp,xn,xm] 76));have HAR:=hd (fun W (hW:Ext [] w W)=>Ie (h.ref.nil hW) h.wf 8 xk xd b xc xp xn xm a ha hn xc 1 (by omega));have q3:=(HH.o.ref.nil HE0.o).cell (i:=3) (by omega) (v:=m.lanes) rfl;have ql:=(HH.o.ref.nil HE0.o).lt;clear h;go_enter func50,ntmps50
 go_wp2_with fail
 clear q3 ql;refine(HAR.o _ HE0.o).mono ?_
 rintro e w1 ⟨rfl,hE1⟩;have HE1:=hd hE1;clear hE1;go_wp2_with fail
 go_ret2
 have er:Ae m S ⟨8,xk,xd,a,b,xc,xp,xn,xm⟩=[]:=by simp[Ae]
 have ew:Ab m S ⟨8,xk,xd,a,b,xc,xp,xn,xm⟩=[⟨xc,S.r (a:Nat)+xn,1⟩]:=by simp[Ab]
 exact⟨none,0,0,_,1,1,rfl,by rw[er];rfl,by rw[ew];rfl,(HE0.o.trans HE1.o).alloc _,.inl er,by rw[ew];exact RdB.one (Blk.new _ _ _) rfl rfl rfl,Src.nil,Src.one _,TyA.nil,TyA.one (Blk.new _ _ _)⟩
theorem Aaq {w:World}{R:RA}{m:Mc}{xs:List Ins}{S:MS}(xk xd xc xp xn xm:Int)(a b:Nat)(h:Kb w R m xs S a b xn xm) :
  Calls prog 50 #[.pointer (some R.A.c),.agg #[(9:Int),xk,xd,a,b,xc,xp,xn,xm]] w (Ka m S ⟨9,xk,xd,a,b,xc,xp,xn,xm⟩ w):=by
 have HH:=hd h;have ha:=h.a;have hb:=h.b;have hn:=h.n;have hmm:=h.mm;have hmc:=Bc h.ref.kd.ok;have haZ:((a:Nat):Int)<16:=by omega
 have hbZ:((b:Nat):Int)<16:=by omega
 have HX:=hd (Blk.new w 76 #[(9:Int),xk,xd,a,b,xc,xp,xn,xm]);have HE0:=hd ((Ext.refl [] w).alloc (.cells #[(9:Int),xk,xd,a,b,xc,xp,xn,xm] 76));have HAR:=hd (fun W (hW:Ext [] w W)=>Ie (h.ref.nil hW) h.wf 9 xk xd b xc xp xn xm a ha hn xc m.lanes (by omega));have q3:=(HH.o.ref.nil HE0.o).cell (i:=3) (by omega) (v:=m.lanes) rfl;have ql:=(HH.o.ref.nil HE0.o).lt;clear h;go_enter func50,ntmps50
 go_wp2_with fail
 clear q3 ql;refine(HAR.o _ HE0.o).mono ?_
 rintro e w1 ⟨rfl,hE1⟩;have HE1:=hd hE1;clear hE1;go_wp2_with fail
 go_ret2
 have er:Ae m S ⟨9,xk,xd,a,b,xc,xp,xn,xm⟩=[⟨xc,S.r (a:Nat)+xn,m.lanes⟩]:=by simp[Ae]
 have ew:Ab m S ⟨9,xk,xd,a,b,xc,xp,xn,xm⟩=[]:=by simp[Ab]
 exact⟨_,1,1,none,0,0,rfl,by rw[er];rfl,by rw[ew];rfl,(HE0.o.trans HE1.o).alloc _,by rw[er];exact RdB.one (Blk.new _ _ _) rfl rfl rfl,.inl ew,Src.one _,Src.nil,TyA.one (Blk.new _ _ _),TyA.nil⟩
theorem Xs {w:World}{R:RA}{m:Mc}{xs:List Ins}{S:MS}(xk xd xc xp xn xm:Int)(a b:Nat)(h:Kb w R m xs S a b xn xm) :
  Calls prog 50 #[.pointer (some R.A.c),.agg #[(10:Int),xk,xd,a,b,xc,xp,xn,xm]] w (Ka m S ⟨10,xk,xd,a,b,xc,xp,xn,xm⟩ w):=by
 have HH:=hd h;have ha:=h.a;have hb:=h.b;have hn:=h.n;have hmm:=h.mm;have hmc:=Bc h.ref.kd.ok;have haZ:((a:Nat):Int)<16:=by omega
 have hbZ:((b:Nat):Int)<16:=by omega
 have HX:=hd (Blk.new w 76 #[(10:Int),xk,xd,a,b,xc,xp,xn,xm]);have HE0:=hd ((Ext.refl [] w).alloc (.cells #[(10:Int),xk,xd,a,b,xc,xp,xn,xm] 76));have HAR:=hd (fun W (hW:Ext [] w W)=>Ie (h.ref.nil hW) h.wf 10 xk xd b xc xp xn xm a ha hn xc m.lanes (by omega));have q3:=(HH.o.ref.nil HE0.o).cell (i:=3) (by omega) (v:=m.lanes) rfl;have ql:=(HH.o.ref.nil HE0.o).lt;clear h;go_enter func50,ntmps50
 go_wp2_with fail
 clear q3 ql;refine(HAR.o _ HE0.o).mono ?_
 rintro e w1 ⟨rfl,hE1⟩;have HE1:=hd hE1;clear hE1;go_wp2_with fail
 go_ret2
 have er:Ae m S ⟨10,xk,xd,a,b,xc,xp,xn,xm⟩=[]:=by simp[Ae]
 have ew:Ab m S ⟨10,xk,xd,a,b,xc,xp,xn,xm⟩=[⟨xc,S.r (a:Nat)+xn,m.lanes⟩]:=by simp[Ab]
 exact⟨none,0,0,_,1,1,rfl,by rw[er];rfl,by rw[ew];rfl,(HE0.o.trans HE1.o).alloc _,.inl er,by rw[ew];exact RdB.one (Blk.new _ _ _) rfl rfl rfl,Src.nil,Src.one _,TyA.nil,TyA.one (Blk.new _ _ _)⟩
end
section
attribute [local irreducible] Ax
def sZI (lo:Nat):Bo:=⟨Nat,0,fun b=>.pointer (some ⟨b,0,none⟩),fun b w=>Blk w b 76 #[(0:Int),(0:Int),(0:Int),(0:Int),(0:Int),(0:Int),(0:Int),(0:Int),(0:Int)]/\lo<=b⟩
theorem Blk.far9 {w:World}{b c:Nat}{t:TypeId}{C:Array Value}(h:Blk w c t C)(hne:c≠b)(y0 y1 y2 y3 y4 y5 y6 y7 y8:Value):Blk (((((((((w.setCell ⟨b,0,none⟩ y0).setCell ⟨b,1,none⟩ y1).setCell ⟨b,2,none⟩ y2).setCell ⟨b,3,none⟩ y3).setCell ⟨b,4,none⟩ y4).setCell ⟨b,5,none⟩ y5).setCell ⟨b,6,none⟩ y6).setCell ⟨b,7,none⟩ y7).setCell ⟨b,8,none⟩ y8) c t C:=
 ((((((((h.far (p:=⟨b,0,none⟩) hne y0).far (p:=⟨b,1,none⟩) hne y1).far (p:=⟨b,2,none⟩) hne y2).far (p:=⟨b,3,none⟩) hne y3).far (p:=⟨b,4,none⟩) hne y4).far (p:=⟨b,5,none⟩) hne y5).far (p:=⟨b,6,none⟩) hne y6).far (p:=⟨b,7,none⟩) hne y7).far (p:=⟨b,8,none⟩) hne y8
theorem sZI.stays {lo:Nat}:∀y w w',Ext [] w w'->(sZI lo).V y w->(sZI lo).V y w':=fun _ _ _ hE h=>⟨h.1.ext hE List.not_mem_nil,h.2⟩
theorem Rq {w:World}{R:RA}{m:Mc}{xs:List Ins}{S:MS}(h:Ak w R m xs S)(hc:Bh m 0 xs=0)(s:Nat)(i:Int)(st:List (Nat×Int))(ht:S.turns=(s,i) :: st)(hi:0<=i/\i<=1000000)(hl:xs.length<=100000)(hst:st.length<=100000)(hcy:0<=S.cyc/\S.cyc<=1000000000000)
  (lo lk ld la lb lc lp ln lm:Int) (hx:xs[s]? = some ⟨lo,lk,ld,la,lb,lc,lp,ln,lm⟩) (h3:lo=3) (hv:VI m ⟨lo,lk,ld,la,lb,lc,lp,ln,lm⟩) :
  Calls prog 53 #[.pointer (some R.A.c)] w (Gp R m xs (Cz xs S s i st ⟨lo,lk,ld,la,lb,lc,lp,ln,lm⟩) w):=by
 have HH:=hd h;have hld:=hv.d;have hlc:=hv.c;have hln:=hv.n;obtain⟨d,rfl⟩:∃d:Nat,ld=d:=⟨ld.toNat,by dsimp only at hld;omega⟩;have hd16:d<16:=by dsimp only at hld;omega
 have hdZ:((d:Nat):Int)<16:=by omega
 have hc0 : -1000<=lc:=hlc.1;have hc1:lc<=1000:=hlc.2;have hn0 : -2147483648<=ln:=hln.1;have hn1:ln<=2147483647:=hln.2;obtain⟨hi0,hi1⟩:=hi
 have hic : -1000000000<=i*lc/\i*lc<=1000000000:=by
  have h1:=Int.natAbs_mul i lc;have h2:i.natAbs<=1000000:=by omega
  have h3:lc.natAbs<=1000:=by omega
  have h4:=Nat.mul_le_mul h2 h3;rw[<-h1] at h4;omega
 have hloops:=h.loops;rw[ht] at hloops;obtain⟨g,cap,hlv,hcap,hgl,hgk,hc1',hc2',hgf⟩:=hloops.top;have HT:=hd ht;have HLV:=hd hlv;have HG1:=hd hc1';have HG2:=hd hc2';have HGF:=hd hgf;have HGK:=hd hgk;have hcy0:=hcy.1;have hcy1:=hcy.2;have hs1:s<xs.length:=(ils hx).1;have hs1I:((s:Nat):Int)<xs.length:=by omega
 obtain⟨cb,co,hcode,hcb,hcx⟩:=h.stat.code.at hx;have HCD:=hd hcode;have HX0:=hd (hcx 0 _ rfl);have HX1:=hd (hcx 1 _ rfl);have HX2:=hd (hcx 2 _ rfl);have HX3:=hd (hcx 3 _ rfl);have HX4:=hd (hcx 4 _ rfl);have HX5:=hd (hcx 5 _ rfl);have HX6:=hd (hcx 6 _ rfl);have HX7:=hd (hcx 7 _ rfl);have HX8:=hd (hcx 8 _ rfl);have HEND:=hd (fun W S' (hW:Ak W R m xs S')=>Rp hW hc hl s hs1);have HEND':=hd (fun W (A':CA) S' (hW:Ak W {R with A:=A' } m xs S')=>Rp hW hc hl s hs1)
 have hEb:(cnt xs xs.length (s+1)).2<=1000000:=by
  obtain⟨y,hy,_⟩:=Qh hc hx h3;have h4:=(ils hy).1;unfold Gh at h4;omega
 obtain⟨E,hE⟩:∃E,E=(cnt xs xs.length (s+1)).2:=⟨_,rfl⟩;have HEE:=hd hE;rw[<-hE] at hEb HEND HEND';obtain⟨L,hL⟩:∃L,L=st.length:=⟨_,rfl⟩;have HL:=hd hL;rw[<-hL] at hlv HG1 HG2 HLV hcap hst;have q36:=h.cell (i:=36) (by omega) (v:=R.A.lv) rfl;rw[hlv] at q36;have ql:=h.lt;have g1:=HG1.o;have g2:=HG2.o;clear h h3 hE ht hv hld hlc hln hlv hc1' hc2' hgf hgk hloops hcy hL hcx hcode hx hc;have hsl:((L:Int)+1-1).toNat=L:=by omega
 have hLL:(L:Int)<(L:Int)+1:=by omega
 have HE0:=hd ((Ext.refl [] w).alloc (.cells #[s,i] 100));have HB0:=hd (Blk.new w 100 #[s,i]);go_enter func53,ntmps53
 go_upto_region 2 with fail
 clear q36 ql g1 g2;generalize w.alloc (.cells #[s,i] 100)=w0 at *;generalize hwl:w.heap.size=bl at *;have hw0:=HB0.o.lt;refine Am 9 (JE _) (Ext []) (Bw [(8,sZI w0.heap.size)]) (by kernel_rfl) (by kernel_rfl) JE.less ?_ JE.start ?_
 ·exact Ah.cons sZI.stays Ah.nil
 simp only[TK]
 repeat(refine dE (fun wr nr hJ=>by(have hE:=HE0.o.trans hJ;have hC:=HH.o.nil hE;have q5:=hC.cell (i:=5) (by omega) (v:=.slice R.A.code xs.length R.A.ccap) rfl;rw[HCD.o] at q5;have ql:=hC.lt;have qb:=HB0.o.ext hJ (by simp);have qbc:=qb.cell;have qbl:=qb.lt;have x0:=hE.held HX0.o (by simp);rw[Nat.add_zero] at x0;have x1:=hE.held HX1.o (by simp);have x2:=hE.held HX2.o (by simp);have x3:=hE.held HX3.o (by simp);have x4:=hE.held HX4.o (by simp);have x5:=hE.held HX5.o (by simp);have x6:=hE.held HX6.o (by simp);have x7:=hE.held HX7.o (by simp);have x8:=hE.held HX8.o (by simp);clear hC hE qb);clear hJ;exact CL) ?_;simp only[PT])
 refine Dh (sZI w0.heap.size) rfl rfl (fun wr nr hJ _=>?_) ?_
 ·refine⟨wr.heap.size,wr.alloc (.cells #[(0:Int),(0:Int),(0:Int),(0:Int),(0:Int),(0:Int),(0:Int),(0:Int),(0:Int)] 76),?_,⟨Blk.new _ _ _,Ext.size hJ⟩,Ext.trans hJ (er.alloc _),er.alloc _⟩
  clear hJ;go_simp
  first|rfl|exact⟨rfl,rfl⟩
 intro (b10:Nat);simp only[PT];dsimp only[sZI];refine Aa (fun w1 hJ hF=>?_)
 have hf10:Blk w1 b10 76 #[(0:Int),(0:Int),(0:Int),(0:Int),(0:Int),(0:Int),(0:Int),(0:Int),(0:Int)]/\w0.heap.size<=b10:=hF 8;have HB1:=hd hf10.1;have hb10:w0.heap.size<=b10:=hf10.2;have HT1:=hd (HB0.o.ext hJ (by simp));have HE1:=hd (HE0.o.trans hJ);have hbc:=HB1.o.cell;have hbf:=HB1.o.frozen;have hbl:=HB1.o.lt;have hne:bl≠b10:=by omega
 have hwb:w.heap.size<=b10:=by omega
 clear hF hJ hf10;have HB2:=hd (HB1.o.all9 (.int .i64 lo) (.int .i64 lk) (.int .i64 d) (.int .i64 la) (.int .i64 lb) (.int .i64 lc) (.int .i64 lp) (.int .i64 ln) (.int .i64 lm));have HE2:=hd (HE1.o.nine hwb (.int .i64 lo) (.int .i64 lk) (.int .i64 d) (.int .i64 la) (.int .i64 lb) (.int .i64 lc) (.int .i64 lp) (.int .i64 ln) (.int .i64 lm));have HT2:=hd (HT1.o.far9 hne (.int .i64 lo) (.int .i64 lk) (.int .i64 d) (.int .i64 la) (.int .i64 lb) (.int .i64 lc) (.int .i64 lp) (.int .i64 ln) (.int .i64 lm));go_upto_region 3 with fail
 clear hbc hbf hbl;generalize ((((((((w1.setCell ⟨b10,0,none⟩ lo).setCell ⟨b10,1,none⟩ lk).setCell ⟨b10,2,none⟩ d).setCell ⟨b10,3,none⟩ la).setCell ⟨b10,4,none⟩ lb).setCell ⟨b10,5,none⟩ lc).setCell ⟨b10,6,none⟩ lp).setCell ⟨b10,7,none⟩ ln).setCell ⟨b10,8,none⟩ lm=w2 at *;have HC2:=hd (HH.o.nil HE2.o);have qb:=HB2.o.cell;have qbl:=HB2.o.lt;have qt:=HT2.o.cell;have qtl:=HT2.o.lt;have q36:=HC2.o.cell (i:=36) (by omega) (v:=R.A.lv) rfl;rw[HLV.o] at q36;have q36f:=HC2.o.ref.frozen 36;have ql:=HC2.o.lt;by_cases hm:lm<=i
 ·have HB:Hd (Cz xs S s i st ⟨lo,lk,(d:Nat),la,lb,lc,lp,ln,lm⟩={S with turns:=st,pc:=E+1 }):=hd (by unfold Cz;rw[ijp hm,<-HEE.o]);have hLc:L<=cap:=by omega
  have HC3:Hd (Ak (w2.setCell ⟨R.A.c,36,none⟩ (.slice (some g) L cap)) {R with A:={R.A with lv:=(.slice (some g) L cap) } } m xs {S with turns:=st }):=hd (by
   have h0:=HC2.o.loops;rw[HT.o] at h0;have h1:=h0.pop g cap (by rw[HLV.o,HL.o]);rw[<-HL.o] at h1;exact HC2.o.setLv (T:=[]) er (by simp) _ st h1)
  have HE3:Hd (Ext [R.A.c] w (w2.setCell ⟨R.A.c,36,none⟩ (.slice (some g) L cap))):=hd (HE2.o.nil.setCell (.inl (by simp)) _);have hcl:=HH.o.lt;have HT3:=hd (HT2.o.far (p:=⟨R.A.c,36,none⟩) (show bl≠R.A.c by omega) (.slice (some g) L cap));have hEw:IntKind.i64.wrap ((E:Int)+1)=((E+1:Nat):Int):=by rw[IntWalk.i64_in _ (by omega)];omega
  go_upto_region 5 with fail
  clear q36 q36f ql qt qtl qb qbl;generalize w2.setCell ⟨R.A.c,36,none⟩ (.slice (some g) L cap)=w3 at *;have qt:=HT3.o.cell;have qtl:=HT3.o.lt;have ql:=HC3.o.lt;dsimp only at ql;go_wp2_with fail
  refine(HEND'.out _ _ _ HC3.o).mono ?_
  rintro e w4 ⟨rfl,hE4⟩;have HC4:=hd (HC3.o.nil hE4);have HE4:=hd (HE3.o.trans hE4.nil);have q37:=HC4.o.cell (i:=37) (by omega) (v:=S.pc) rfl;have q37f:=HC4.o.ref.frozen 37;have ql:=HC4.o.lt;dsimp only at ql q37 q37f;clear hE4 qt qtl;go_wp2_with fail
  go_end0
  refine⟨rfl,{R with A:={R.A with lv:=.slice (some g) L cap } },Aj.of (HE4.o.setCell (p:=⟨R.A.c,37,none⟩) (.inl (by simp)) _) (fun x hx=>by rw[ms hx,HH.o.kd.kc];omega),?_,rfl,fun _ _=>rfl⟩
  rw[HB.o];exact HC4.o.setPc (E+1)
 ·have HB:Hd (Cz xs S s i st ⟨lo,lk,(d:Nat),la,lb,lc,lp,ln,lm⟩={S with turns:=(s,i+1) :: st,r:=Be S.r (d:Nat) (w32 (ln+i*lc)),cyc:=S.cyc+1,pc:=s+1 }):=hd (by unfold Cz;rw[ijn hm]);go_upto_region 6 with fail
  clear q36 q36f ql qt qtl qb qbl;obtain⟨P,hP⟩:∃P,P=i*lc:=⟨_,rfl⟩;have hw1:IntKind.i64.wrap (i*lc)=P:=by rw[hP];exact IntWalk.i64_in _ (by omega)
  rw[<-hP] at hic;obtain⟨hp0,hp1⟩:=hic;have hw2:IntKind.i64.wrap (ln+P)=ln+P:=IntWalk.i64_in _ (by omega);rw[<-hP] at HB;clear hP;refine rgE 14 [(11,Bv (.int .i64 (w32 (ln+P))))] ?_
  simp only[TK]
  repeat(refine dE (fun wr nr hJ=>by(have qb:=(HB2.o.ext hJ (by simp)).cell;have qbl:=(HB2.o.ext hJ (by simp)).lt;have qt:=(HT2.o.ext hJ (by simp)).cell;have qtl:=(HT2.o.ext hJ (by simp)).lt;have ql:=(HC2.o.nil hJ).lt);clear hJ;exact CL) ?_;simp only[PT])
  refine Bj rfl rfl ?_ ?_
  ·apply Exists.intro
   apply Exists.intro
   refine⟨fun wr=>?_,fun wr nr hJ=>?_⟩
   ·go_simp
    first|exact⟨rfl,rfl⟩|rfl
   ·exact(Fj _ _).mono (fun e w' h=>⟨h.1,by rw[h.2];exact er⟩)
  simp only[PT]
  repeat(refine dE (fun wr nr hJ=>by(have qb:=(HB2.o.ext hJ (by simp)).cell;have qbl:=(HB2.o.ext hJ (by simp)).lt;have qt:=(HT2.o.ext hJ (by simp)).cell;have qtl:=(HT2.o.ext hJ (by simp)).lt;have ql:=(HC2.o.nil hJ).lt);clear hJ;exact CL) ?_;simp only[PT])
  refine Aa (fun w3 hJ hF=>?_)
  have HC3:=hd (HC2.o.nil hJ);have HE3:=hd (HE2.o.trans hJ);have HT3:=hd (HT2.o.ext hJ (by simp));have hcl:=HH.o.lt;have hgc:g≠R.A.c:=fun e=>by have h1:=HGK.o;have h2:=HH.o.kd.kc;rw[e] at h1;omega
  have HC4:=hd (HC3.o.setReg d hd16 (w32 (ln+P)));have HE4:Hd (Ext [R.A.c,g] w (w3.setCell ⟨R.A.c,6+d,none⟩ (.int .i64 (w32 (ln+P))))):=hd (HE3.o.nil.setCell (.inl (by simp)) _);have HT4:=hd (HT3.o.far (p:=⟨R.A.c,6+d,none⟩) (show bl≠R.A.c by omega) (.int .i64 (w32 (ln+P))));have q1:=HC3.o.reg hd16;have q2:=HC3.o.ref.frozen (6+d);have q3:=HC3.o.lt;clear hF hJ hw1 hw2;go_upto_region 7 with fail
  clear q1 q2 q3;generalize w3.setCell ⟨R.A.c,6+d,none⟩ (.int .i64 (w32 (ln+P)))=w4 at *;have q36:=HC4.o.cell (i:=36) (by omega) (v:=R.A.lv) rfl;rw[HLV.o] at q36;have ql:=HC4.o.lt
  have g1:w4.cell? ⟨g,L*2+1,none⟩=some (.int .i64 i):=by
   have h1:=HC4.o.loops;dsimp only at h1;rw[HT.o] at h1;obtain⟨g',c',e1,_,_,_,_,e2,_⟩:=h1.top;rw[HLV.o] at e1;injection e1 with e1;injection e1 with e1;injection e1 with e1;subst e1;rw[<-HL.o] at e2;exact e2
  have g2:w4.frozen? ⟨g,L*2+1,none⟩=false:=by
   have h1:=HC4.o.loops;dsimp only at h1;rw[HT.o] at h1;obtain⟨g',c',e1,_,_,_,_,_,e2⟩:=h1.top;rw[HLV.o] at e1;injection e1 with e1;injection e1 with e1;injection e1 with e1;subst e1;exact e2 _
  have g3:g<w4.heap.size:=nl hgl (by have:=HE4.o.size;omega)
  have HC5:Hd (Ak (w4.setCell ⟨g,L*2+1,none⟩ (.int .i64 (i+1))) R m xs {S with r:=Be S.r (d:Nat) (w32 (ln+P)),turns:=(s,i+1) :: st }):=hd (by
   have h1:=HC4.o.setTop (s:=s) (i:=i) (st:=st) HT.o g cap (by rw[HLV.o,HL.o]) (i+1);rw[<-HL.o] at h1;exact h1)
  have HE5:Hd (Ext [R.A.c,g] w (w4.setCell ⟨g,L*2+1,none⟩ (.int .i64 (i+1)))):=hd (HE4.o.setCell (.inl (by simp)) _);have hbg:bl≠g:=by omega
  have HT5:=hd (HT4.o.far (p:=⟨g,L*2+1,none⟩) hbg (.int .i64 (i+1)));go_upto_region 8 with fail
  clear q36 ql g1 g2 g3;generalize w4.setCell ⟨g,L*2+1,none⟩ (.int .i64 (i+1))=w5 at *;have q38:=HC5.o.cell (i:=38) (by omega) (v:=S.cyc) rfl;have q38f:=HC5.o.ref.frozen 38;have ql:=HC5.o.lt;have HC6:=hd (HC5.o.setCyc (S.cyc+1));have HE6:=hd (HE5.o.setCell (p:=⟨R.A.c,38,none⟩) (.inl (by simp)) (.int .i64 (S.cyc+1)));have HT6:=hd (HT5.o.far (p:=⟨R.A.c,38,none⟩) (show bl≠R.A.c by omega) (.int .i64 (S.cyc+1)));go_upto_region 9 with fail
  clear q38 q38f ql;generalize w5.setCell ⟨R.A.c,38,none⟩ (.int .i64 (S.cyc+1))=w6 at *;have q37:=HC6.o.cell (i:=37) (by omega) (v:=S.pc) rfl;have q37f:=HC6.o.ref.frozen 37;have ql:=HC6.o.lt;have qt:=HT6.o.cell;have qtl:=HT6.o.lt;go_wp2_with fail
  go_end0
  refine⟨rfl,R,Aj.of (HE6.o.setCell (p:=⟨R.A.c,37,none⟩) (.inl (by simp)) _) (fun x hx=>?_),?_,rfl,fun _ _=>rfl⟩
  ·simp at hx;rcases hx with rfl|rfl
   ·rw[HH.o.kd.kc];omega
   ·rw[HGK.o];omega
  ·rw[HB.o];exact HC6.o.setPc (s+1)
end
end Go.Proofs.YtkgmhggliifkjaaGreat
