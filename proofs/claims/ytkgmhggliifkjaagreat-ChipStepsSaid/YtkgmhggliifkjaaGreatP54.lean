import Derived.Test.YtkgmhggliifkjaaGreatP29
import Derived.Test.YtkgmhggliifkjaaGreatP45
namespace Go.Proofs.YtkgmhggliifkjaaGreat
open Go.RowKit Go.Proofs.Tryz
set_option linter.all false
set_option maxHeartbeats 8000000
set_option maxRecDepth 4000
section
attribute [local irreducible] Ax
def Zs (S:MS):Prop:=∀b i,0<=b->S.set b i=false->S.mem b i=0
section
variable {m:Mc} {xs:List Ins} {S:MS}
theorem Zs.same {T:MS}(h:Zs S)(h1:T.set=S.set)(h2:T.mem=S.mem):Zs T:=fun b i hb hs=>by rw[h1] at hs;rw[h2];exact h b i hb hs
theorem Zs.put (h:Zs S)(a:Ar)(l:List Int):Zs (S.put a l):=fun b i hb hs=>by
 unfold MS.put at hs⊢;dsimp only at hs⊢;split at hs
 ·cases hs
 ·rename_i hn
  rw[ijn hn];exact h b i hb hs
theorem Zs.wait (h:Zs S)(d:Int):Zs (S.wait d):=by
 unfold MS.wait;split
 ·exact h
 ·rename_i t _
  exact(h.put t.dst t.words).same rfl rfl
theorem Zs.waits (h:Zs S)(n:Nat):Zs (S.waits n):=by
 induction n with
 | zero=>exact h
 | succ n ih=>exact Zs.wait ih _
theorem Zs.eff (h:Zs S)(x:Ins):Zs (Az m S x):=by
 unfold Az;dsimp only;by_cases c1:x.op=1
 ·rw[ijp c1];exact h.same rfl rfl
 rw[ijn c1];by_cases c2:x.op=2
 ·rw[ijp c2];exact h.same rfl rfl
 rw[ijn c2];by_cases c5:x.op=5\/x.op=7
 ·rw[ijp c5];exact h.same rfl rfl
 rw[ijn c5];by_cases c6:x.op=6\/x.op=8
 ·rw[ijp c6];exact h.put _ _
 rw[ijn c6];by_cases c9:x.op=9
 ·rw[ijp c9];exact h.same rfl rfl
 rw[ijn c9];by_cases c10:x.op=10
 ·rw[ijp c10];exact h.put _ _
 rw[ijn c10];by_cases c11:x.op=11
 ·rw[ijp c11];exact h.same rfl rfl
 rw[ijn c11];by_cases c12:x.op=12
 ·rw[ijp c12];exact h.same rfl rfl
 rw[ijn c12];by_cases c13:x.op=13
 ·rw[ijp c13];exact h.same rfl rfl
 rw[ijn c13];by_cases c14:x.op=14
 ·rw[ijp c14];exact h.same rfl rfl
 rw[ijn c14];by_cases c15:x.op=15
 ·rw[ijp c15];exact h.same rfl rfl
 rw[ijn c15];by_cases c16:x.op=16
 ·rw[ijp c16];exact h.same rfl rfl
 rw[ijn c16];by_cases c17:x.op=17
 ·rw[ijp c17];exact h.same rfl rfl
 rw[ijn c17];by_cases c18:x.op=18
 ·rw[ijp c18];exact h.same rfl rfl
 rw[ijn c18];exact h
theorem Zs.begins (h:Zs S)(s:Nat)(i:Int)(st:List (Nat×Int))(l:Ins):Zs (Cz xs S s i st l):=by
 unfold Cz;split<;>exact h.same rfl rfl
theorem Zs.flow (h:Zs S)(x:Ins):Zs (De xs S x):=by
 unfold De;split
 ·exact h.begins _ _ _ _
 split
 ·split
  ·exact h
  ·exact h.begins _ _ _ _
 ·exact h.same rfl rfl
theorem Zs.ends (h:Zs S):Zs (Fq m xs S):=by
 unfold Fq;split
 ·exact(h.waits _).same rfl rfl
 ·exact h
theorem Zs.step (h:Zs S):Zs (Cf m xs S).2:=by
 unfold Cf;split
 ·exact h
 generalize xs.getD S.pc zI=x;unfold Gn
 have h0:Zs (if x.op=18 then S.wait x.d else S):=by
  split
  ·exact h.wait _
  ·exact h
 dsimp only;generalize (if x.op=18 then S.wait x.d else S)=S0 at *;split
 ·exact h0.same rfl rfl
 have h1:Zs (if Cr S0 x then S0 else Az m S0 x):=by
  split
  ·exact h0
  ·exact h0.eff x
 generalize (if Cr S0 x then S0 else Az m S0 x)=S1 at *;have h2:Zs {S1 with cyc:=S1.cyc+Bx m.lanes x }:=h1.same rfl rfl;generalize ({S1 with cyc:=S1.cyc+Bx m.lanes x }:MS)=S2 at *
 have h3:Zs (if x.op=19 then S2.wait x.d else S2):=by
  split
  ·exact h2.wait _
  ·exact h2
 generalize (if x.op=19 then S2.wait x.d else S2)=S3 at *;exact(h3.flow x).ends
theorem Zs.new (main:List Int)(n:Nat):Zs (MS.new main n):=fun b i hb _=>by
 show(if b<0/\0<=i then main.getD i.toNat 0 else 0)=0
 rw[ijn (by omega)]
end
def Abe (S:MS)(r:Int):Int:=if 0<=r/\r<=15 then S.r r else 0
def Ex (m:Mc)(S:MS)(b i:Int):Int:=if b = -1/\0<=i/\i<=m.main-1 then S.mem (-1) i else if(0<=b/\b<=m.banks-1)/\0<=i/\i<=m.bank-1 then S.mem b i else 0
def setS (m:Mc)(S:MS)(b i:Int):Bool:=if b = -1/\0<=i/\i<=m.main-1 then true else if(0<=b/\b<=m.banks-1)/\0<=i/\i<=m.bank-1 then S.set b i else false
section
variable {w:World} {A:CA} {m:Mc} {xs:List Ins} {S:MS}
theorem Af9 (h:Ag w A m xs S):Calls prog 39 #[.pointer (some A.c)] w fun e w'=>e=.returned (.int .i64 S.pc)/\Ext [] w w':=by
 have q:=h.cell (i:=164) (by omega) (v:=S.pc) rfl;have ql:=h.lt;clear h;go_enter func39,ntmps39
 go_wp2_with fail
 go_ret
 exact⟨rfl,er⟩
theorem Pv (h:Ag w A m xs S):Calls prog 40 #[.pointer (some A.c)] w fun e w'=>e=.returned (.int .i64 S.cyc)/\Ext [] w w':=by
 have q:=h.cell (i:=165) (by omega) (v:=S.cyc) rfl;have ql:=h.lt;clear h;go_enter func40,ntmps40
 go_wp2_with fail
 go_ret
 exact⟨rfl,er⟩
theorem Abf (h:Ag w A m xs S):Calls prog 38 #[.pointer (some A.c)] w fun e w'=>e=.returned (.tuple #[.agg #[(flA S),(flK S)],.bool S.fault.isSome])/\Ext [] w w':=by
 have HC:=hd h;have HB:=hd (Blk.new w 36 #[(0:Int),(0:Int)]);have HE:=hd ((Ext.refl [] w).alloc (.cells #[(0:Int),(0:Int)] 36));have hlt:=h.lt;clear h;go_enter func38,ntmps38
 go_wp2_with fail
 have HC2:=hd (HC.o.nil HE.o);have HB3:=hd ((HB.o.set_ 0 (.int .i64 (flA S))).set_ 1 (.int .i64 (flK S)));have HE3:=hd ((HE.o.setCell (p:=⟨w.heap.size,0,none⟩) (.inr (by simp)) (.int .i64 (flA S))).setCell (p:=⟨w.heap.size,1,none⟩) (.inr (by simp)) (.int .i64 (flK S)));generalize w.alloc (.cells #[(0:Int),(0:Int)] 36)=w2 at *;generalize hbk:w.heap.size=bk at *;have hC:=HC2.o;have q166:=hC.cell (i:=166) (by omega) (v:=.int .i64 (flA S)) rfl;have q167:=hC.cell (i:=167) (by omega) (v:=.int .i64 (flK S)) rfl;have q169:=hC.cell (i:=169) (by omega) (v:=.bool S.fault.isSome) rfl;have ql:=hC.lt;have q0:=HB.o.cell 0;have q1:=HB.o.cell 1;have qf:=HB.o.frozen;have qbl:=HB.o.lt;simp only[List.getElem?_toArray,List.getElem?_cons_zero,List.getElem?_cons_succ] at q0 q1;have hne:A.c≠bk:=by omega
 clear hC;go_region
 go_wp2_with fail
 refine bodyPost_ret (Jq rfl _ _ bk (flA S) (flK S) (.bool S.fault.isSome) rfl rfl HB3.o) rfl ?_
 first|exact⟨rfl,HE3.o⟩|exact⟨rfl,HE3.o.drew⟩|exact⟨rfl,HE3.o.drewN _⟩|exact⟨rfl,((HE.o.drewN _).setCell (p:=⟨bk,0,none⟩) (.inr (by omega)) (.int .i64 (flA S))).setCell (p:=⟨bk,1,none⟩) (.inr (by omega)) (.int .i64 (flK S))⟩
theorem Yt (h:Ag w A m xs S)(r:Int):Calls prog 41 #[.pointer (some A.c),r] w fun e w'=>e=.returned (.int .i64 (Abe S r))/\Ext [] w w':=by
 have HC:=hd h;have ql:=h.lt;clear h;go_enter func41,ntmps41
 go_wp2_with fail
 refine(Co _ _ _ _).mono ?_
 rintro e w' ⟨rfl,rfl⟩;cases hr:inR r 0 15
 ·go_wp2_with fail
  go_ret
  refine⟨Ai ?_,er⟩
  unfold Abe;rw[ijn (fun hh=>by rw[Bi.2 hh] at hr;cases hr)]
 ·obtain⟨hr0,hr1⟩:=Bi.1 hr;obtain⟨k,rfl⟩:∃k:Nat,r=k:=⟨r.toNat,by omega⟩
  have q:=HC.o.cell (i:=10+k) (by omega) (v:=.int .i64 (S.r k)) (by
   unfold chF;rw[ijn (by omega),ijp (by omega),show 10+k-10=k by omega])
  go_wp2_with fail
  go_ret
  refine⟨Ai ?_,er⟩
  unfold Abe;rw[ijp ⟨hr0,hr1⟩]
theorem Gm (h:Ag w A m xs S)(b i:Int):Calls prog 42 #[.pointer (some A.c),b,i] w fun e w'=>e=.returned (.tuple #[(Ex m S b i),.bool (setS m S b i)])/\Ext [] w w':=by
 have hmc:=Bc h.kd.ok;have HC:=hd h;have ql:=h.lt;have q0:=h.cell (i:=0) (by omega) (v:=m.main) rfl;have q1:=h.cell (i:=1) (by omega) (v:=m.banks) rfl;have q2:=h.cell (i:=2) (by omega) (v:=m.bank) rfl;by_cases hb1:b = -1
 ·subst hb1;clear h;go_enter func42,ntmps42
  go_wp2_with fail
  refine(Co _ _ _ _).mono ?_
  rintro e w' ⟨rfl,rfl⟩;obtain⟨an,han⟩:∃an,an=inR i 0 (m.main-1):=⟨_,rfl⟩;rw[<-han];cases an
  ·have hn:¬((-1:Int) = -1/\0<=i/\i<=m.main-1):=fun h=>by rw[Bi.2 h.2] at han;cases han
   have HEND:Hd (Ex m S (-1) i=0/\setS m S (-1) i=false):=hd (by
    unfold Ex setS;rw[ijn hn,ijn (by omega),ijn hn,ijn (by omega)];exact⟨rfl,rfl⟩)
   clear hn han;go_wp2_with fail
   refine(Co _ _ _ _).mono ?_
   rintro e w' ⟨rfl,rfl⟩;rw[show inR (-1) 0 (m.banks-1)=false by cases h:inR (-1) 0 (m.banks-1) with|false=>rfl|true=>have:=Bi.1 h;omega];go_wp2_with fail
   (try go_ret2)
   exact⟨by rw[HEND.o.1,HEND.o.2];try rfl,er⟩
  ·obtain⟨hi0,hi1⟩:=Bi.1 han.symm;obtain⟨k,rfl⟩:∃k:Nat,i=k:=⟨i.toNat,by omega⟩;have q3:=HC.o.cell (i:=7) (by omega) (v:=.slice (some A.mb) m.main.toNat A.mcap) rfl;have qm:=HC.o.mem.main.cell (i:=k) (by omega);have hkm:(k:Int)<m.main.toNat:=by omega
   have HEND:Hd (Ex m S (-1) k=S.mem (-1) k/\setS m S (-1) k=true):=hd (by
    unfold Ex setS;rw[ijp ⟨rfl,hi0,hi1⟩,ijp ⟨rfl,hi0,hi1⟩];exact⟨rfl,rfl⟩)
   clear han;go_wp2_with fail
   (try go_ret2)
   exact⟨by rw[HEND.o.1,HEND.o.2];try rfl,er⟩
 ·have hbb:(b == -1)=false:=by simpa using hb1
  have HNB:=hd hb1;clear h hb1;go_enter func42,ntmps42
  go_wp2_with fail
  refine(Co _ _ _ _).mono ?_
  rintro e w' ⟨rfl,rfl⟩;obtain⟨an,han⟩:∃an,an=inR b 0 (m.banks-1):=⟨_,rfl⟩;rw[<-han];cases an
  ·have hn:¬(0<=b/\b<=m.banks-1):=fun h=>by rw[Bi.2 h] at han;cases han
   have HEND:Hd (Ex m S b i=0/\setS m S b i=false):=hd (by
    have hnb:=HNB.o;unfold Ex setS;rw[ijn (fun h=>hnb h.1),ijn (fun h=>hn h.1),ijn (fun h=>hnb h.1),ijn (fun h=>hn h.1)];exact⟨rfl,rfl⟩)
   clear hn han;go_wp2_with fail
   (try go_ret2)
   exact⟨by rw[HEND.o.1,HEND.o.2];try rfl,er⟩
  ·have hb:=Bi.1 han.symm;have HBB:=hd hb;clear han;go_wp2_with fail
   refine(Co _ _ _ _).mono ?_
   rintro e w' ⟨rfl,rfl⟩;obtain⟨an,han⟩:∃an,an=inR i 0 (m.bank-1):=⟨_,rfl⟩;rw[<-han];cases an
   ·have hn:¬(0<=i/\i<=m.bank-1):=fun h=>by rw[Bi.2 h] at han;cases han
    have HEND:Hd (Ex m S b i=0/\setS m S b i=false):=hd (by
     have hnb:=HNB.o;unfold Ex setS;rw[ijn (fun h=>hnb h.1),ijn (fun h=>hn h.2),ijn (fun h=>hnb h.1),ijn (fun h=>hn h.2)];exact⟨rfl,rfl⟩)
    clear hn han;go_wp2_with fail
    (try go_ret2)
    exact⟨by rw[HEND.o.1,HEND.o.2];try rfl,er⟩
   ·have hi:=Bi.1 han.symm;obtain⟨k,rfl⟩:∃k:Nat,i=k:=⟨i.toNat,by omega⟩;obtain⟨d,rfl⟩:∃k:Nat,b=k:=⟨b.toNat,by omega⟩;have HII:=hd hi
    have HEND:Hd (Ex m S d k=S.mem d k/\setS m S d k=S.set d k):=hd (by
     unfold Ex setS;have hnb:=HNB.o;rw[ijn (fun h=>hnb h.1),ijp ⟨HBB.o,HII.o⟩,ijn (fun h=>hnb h.1),ijp ⟨HBB.o,HII.o⟩];exact⟨rfl,rfl⟩)
    have h1:(d:Int)<m.banks.toNat:=by omega
    have h2:(k:Int)<m.bank.toNat:=by omega
    have h3:d<m.banks.toNat:=by omega
    have h4:k<m.bank.toNat:=by omega
    have H34:=hd (And.intro h3 h4);clear han h3 h4;go_wp2_with fail
    have hC:=HC.o;have q8:=hC.cell (i:=8) (by omega) (v:=.slice (some A.bo) m.banks.toNat A.bcap) rfl;have q9:=hC.cell (i:=9) (by omega) (v:=.slice (some A.so) m.banks.toNat A.scap) rfl;have qb:=hC.stat.banks.cell H34.o.1;have qs:=hC.stat.sets.cell H34.o.1;have qw:=(hC.mem.bank d H34.o.1).cell H34.o.2;have qt:=(hC.mem.set d H34.o.1).cell H34.o.2;clear hC;go_region
    go_wp2_with fail
    (try go_ret2)
    exact⟨by rw[HEND.o.1,HEND.o.2];try rfl,er.drewN _⟩
end
end
section
attribute [local irreducible] Ax
structure Vx (w:World)(A:CA)(R:RA)(m:Mc)(xs:List Ins)(S:MS)(g:Nat):Prop where
 chip:Ag w A m xs S
 ref:Ak w R m xs S
 ga:40<=A.kd g
 gr:40<=R.A.kd g
theorem Vx.ext {w w':World}{A:CA}{R:RA}{m:Mc}{xs:List Ins}{S:MS}{g:Nat}(h:Vx w A R m xs S g)(hE:Ext [g] w w'):Vx w' A R m xs S g:=
 ⟨h.chip.ext hE (fun x hx=>by rw[ms hx];exact h.ga),h.ref.ext hE (fun x hx=>by rw[ms hx];exact h.gr),h.ga,h.gr⟩
theorem Vx.nil {w w':World}{A:CA}{R:RA}{m:Mc}{xs:List Ins}{S:MS}{g:Nat}(h:Vx w A R m xs S g)(hE:Ext [] w w'):Vx w' A R m xs S g:=h.ext hE.nil
section
variable {w:World} {R:RA} {m:Mc} {xs:List Ins} {S:MS}
theorem Ak.c11 (h:Ak w R m xs S):w.cell? ⟨R.A.c,37,none⟩=some (.int .i64 S.pc):=by rw[h.ref.cell,Ci _ _ _ _ (by omega)];rfl
theorem Ak.c12 (h:Ak w R m xs S):w.cell? ⟨R.A.c,38,none⟩=some (.int .i64 S.cyc):=by rw[h.ref.cell,Ci _ _ _ _ (by omega)];rfl
theorem Ak.c13 (h:Ak w R m xs S):w.cell? ⟨R.A.c,39,none⟩=some (.pointer (match S.fault with|none=>none|some _=>some R.fb)):=by rw[h.ref.cell,Ci _ _ _ _ (by omega)];rfl
theorem Ak.creg (h:Ak w R m xs S){k:Nat}(hk:k<16):w.cell? ⟨R.A.c,6+k,none⟩=some (.int .i64 (S.r k)):=by
 rw[h.ref.cell,Ci _ _ _ _ (by omega)];unfold rmF;rw[ijn (by omega),ijp (by omega),show 6+k-6=k by omega]
end
set_option maxRecDepth 100000
theorem Pg (base g n:Nat){w:World}{A:CA}{R:RA}{m:Mc}{xs:List Ins}{S:MS}(h:Vx w A R m xs S g)(hz:Zs S)(hS:Stm w base g (n+60)) :
  Calls prog 16 #[.pointer (some g),.pointer (some A.c),.pointer (some R.A.c),.agg m.cells.toArray] w fun e w'=>e=.returned (.bool true)/\Ext [g] w w'/\Stm w' base g n:=by
 have hmc:=Bc h.chip.kd.ok;have HT:=hd h;have HZ:=hd hz;have HS:=hd hS;obtain⟨M,hM⟩:∃M,M=m:=⟨_,rfl⟩;rw[<-hM] at HT;have HMM:=hd hM;clear h hz hS hM;obtain⟨m0,m1,m2,m3,m4⟩:=m;dsimp only at hmc;show Calls prog 16 #[.pointer (some g),.pointer (some A.c),.pointer (some R.A.c),.agg #[m0,m1,m2,m3,m4]] w _
 have HB:=hd (Blk.new w 27 #[m0,m1,m2,m3,m4]);have HE0:=hd ((Ext.refl [] w).alloc (.cells #[m0,m1,m2,m3,m4] 27));go_enter func16,ntmps16
 go_wp2_with fail
 refine(Abf (HT.o.nil HE0.o).chip).mono ?_
 rintro e w1 ⟨rfl,hE1⟩;have HE1:=hd (HE0.o.trans hE1);have HB1:=hd (HB.o.ext hE1 (by simp));clear hE1;obtain⟨fa,hfa⟩:∃v,v=flA S:=⟨_,rfl⟩;obtain⟨fk,hfk⟩:∃v,v=flK S:=⟨_,rfl⟩;rw[<-hfa,<-hfk];have HF1:=hd (And.intro hfa hfk);clear hfa hfk;have HB2:=hd (Blk.new w1 36 #[fa,fk]);have HE12:=hd ((Ext.refl [] w1).alloc (.cells #[fa,fk] 36));go_upto_region 2 with fail
 have HM2:=hd (HB1.o.ext HE12.o (by simp));have HE2:=hd (HE1.o.trans HE12.o);generalize w1.alloc (.cells #[fa,fk] 36)=w2 at *;obtain⟨fl,hfl⟩:∃b,b=S.fault.isSome:=⟨_,rfl⟩;rw[<-hfl];have HT2:=hd (HT.o.nil HE2.o);have HFL:=hd hfl;have hkp:∀W,Ext [] w2 W->Vx W A R M xs S g:=fun W hW=>HT2.o.nil hW
 have HK:=hd hkp;clear hfl hkp;go_cut [70] (fun s wx=>s=.bool false/\Ext [] w2 wx)
 case first=>
  cases fl
  ·have hfn:S.fault=none:=by
    cases hx:S.fault with
    | none=>rfl
    | some y=>have:=HFL.o;rw[hx] at this;cases this
   have h1:fa=0:=by rw[HF1.o.1];unfold flA;rw[hfn]
   have h2:fk=0:=by rw[HF1.o.2];unfold flK;rw[hfn]
   subst h1 h2;have H13:Hd (∀W,Ak W R M xs S->W.cell? ⟨R.A.c,39,none⟩=some (.pointer none)):=hd fun W hW=>by rw[hW.c13,hfn]
   clear hfn;go_wp2_with fail
   refine rgE 47 [(1,Bv (.int .i64 S.pc)),(9,Bv (.int .i64 S.cyc))] ?_
   simp only[TK]
   repeat(refine dE (fun wr nr hJ=>by clear hJ;exact CL) ?_;simp only[PT])
   refine Bj rfl rfl ?_ ?_
   ·apply Exists.intro
    apply Exists.intro
    refine⟨fun wr=>?_,fun wr nr hJ=>?_⟩
    ·go_simp
     first|exact⟨rfl,rfl⟩|rfl
    ·exact(Af9 (HK.o _ hJ).chip)
   simp only[PT]
   repeat(refine dE (fun wr nr hJ=>by(have hX:=HK.o _ hJ;have q11:=hX.ref.c11;have q12:=hX.ref.c12;have q13:=H13.o _ hX.ref;have ql:=hX.ref.lt;have hb:=HB2.o.ext hJ (by simp);have qb:=hb.cell;have qbl:=hb.lt;clear hX hb);clear hJ;exact CL) ?_;simp only[PT])
   refine Bj rfl rfl ?_ ?_
   ·apply Exists.intro
    apply Exists.intro
    refine⟨fun wr=>?_,fun wr nr hJ=>?_⟩
    ·go_simp
     first|exact⟨rfl,rfl⟩|rfl
    ·exact(Pv (HK.o _ hJ).chip)
   simp only[PT]
   repeat(refine dE (fun wr nr hJ=>by(have hX:=HK.o _ hJ;have q11:=hX.ref.c11;have q12:=hX.ref.c12;have q13:=H13.o _ hX.ref;have ql:=hX.ref.lt;have hb:=HB2.o.ext hJ (by simp);have qb:=hb.cell;have qbl:=hb.lt;clear hX hb);clear hJ;exact CL) ?_;simp only[PT])
   iterate 8
    refine Ee rfl ?_
    simp only[PT]
   repeat(refine dE (fun wr nr hJ=>by(have hX:=HK.o _ hJ;have q11:=hX.ref.c11;have q12:=hX.ref.c12;have q13:=H13.o _ hX.ref;have ql:=hX.ref.lt;have hb:=HB2.o.ext hJ (by simp);have qb:=hb.cell;have qbl:=hb.lt;clear hX hb);clear hJ;exact CL) ?_;simp only[PT])
   refine Aa (fun w3 hJ hF=>?_)
   have HE23:=hd hJ;clear hF hJ;go_wp2_with fail
   go_meet
   exact⟨rfl,HE23.o⟩
  ·obtain⟨a,k,hfs⟩:∃(a:Nat) (k:Int),S.fault=some (a,k):=by
    cases hx:S.fault with
    | none=>have:=HFL.o;rw[hx] at this;cases this
    | some y=>exact⟨y.1,y.2,rfl⟩
   have h1:fa=a:=by rw[HF1.o.1];unfold flA;rw[hfs]
   have h2:fk=k:=by rw[HF1.o.2];unfold flK;rw[hfs]
   subst h1 h2;have H13:Hd (∀W,Ak W R M xs S->W.cell? ⟨R.A.c,39,none⟩=some (.pointer (some R.fb))):=hd fun W hW=>by rw[hW.c13,hfs]
   have HFB:Hd (∀W,Ak W R M xs S->Blk W R.fb 36 #[(a:Nat),fk]):=hd fun W hW=>(hW.flt a fk hfs).1
   clear hfs;go_wp2_with fail
   refine rgE 47 [(1,Bv (.int .i64 S.pc)),(9,Bv (.int .i64 S.cyc))] ?_
   simp only[TK]
   repeat(refine dE (fun wr nr hJ=>by clear hJ;exact CL) ?_;simp only[PT])
   refine Bj rfl rfl ?_ ?_
   ·apply Exists.intro
    apply Exists.intro
    refine⟨fun wr=>?_,fun wr nr hJ=>?_⟩
    ·go_simp
     first|exact⟨rfl,rfl⟩|rfl
    ·exact(Af9 (HK.o _ hJ).chip)
   simp only[PT]
   repeat(refine dE (fun wr nr hJ=>by(have hX:=HK.o _ hJ;have q11:=hX.ref.c11;have q12:=hX.ref.c12;have q13:=H13.o _ hX.ref;have ql:=hX.ref.lt;have hfb:=HFB.o _ hX.ref;have qfc:=hfb.cell;have qfl:=hfb.lt;clear hfb;have hb:=HB2.o.ext hJ (by simp);have qb:=hb.cell;have qbl:=hb.lt;clear hX hb);clear hJ;exact CL) ?_;simp only[PT])
   refine Bj rfl rfl ?_ ?_
   ·apply Exists.intro
    apply Exists.intro
    refine⟨fun wr=>?_,fun wr nr hJ=>?_⟩
    ·go_simp
     first|exact⟨rfl,rfl⟩|rfl
    ·exact(Pv (HK.o _ hJ).chip)
   simp only[PT]
   repeat(refine dE (fun wr nr hJ=>by(have hX:=HK.o _ hJ;have q11:=hX.ref.c11;have q12:=hX.ref.c12;have q13:=H13.o _ hX.ref;have ql:=hX.ref.lt;have hfb:=HFB.o _ hX.ref;have qfc:=hfb.cell;have qfl:=hfb.lt;clear hfb;have hb:=HB2.o.ext hJ (by simp);have qb:=hb.cell;have qbl:=hb.lt;clear hX hb);clear hJ;exact CL) ?_;simp only[PT])
   iterate 3
    refine Ee rfl ?_
    simp only[PT]
   repeat(refine dE (fun wr nr hJ=>by(have hX:=HK.o _ hJ;have q11:=hX.ref.c11;have q12:=hX.ref.c12;have q13:=H13.o _ hX.ref;have ql:=hX.ref.lt;have hfb:=HFB.o _ hX.ref;have qfc:=hfb.cell;have qfl:=hfb.lt;clear hfb;have hb:=HB2.o.ext hJ (by simp);have qb:=hb.cell;have qbl:=hb.lt;clear hX hb);clear hJ;exact CL) ?_;simp only[PT])
   refine Aa (fun w3 hJ hF=>?_)
   have HE23:=hd hJ;clear hF hJ;go_wp2_with fail
   go_meet
   exact⟨rfl,HE23.o⟩
 case rest=>
  obtain⟨rfl,hE3⟩:=hcut;rename World=>w3
  have HE3:=hd (HE2.o.trans hE3);have HT3:=hd (HT2.o.nil hE3);have HM3:=hd (HM2.o.ext hE3 (by simp));clear hE3 HK;go_wp2_with fail
  go_loopw [11] (fun i wr=>∃r:Int,i=.int .i64 r/\-1<=r/\r<=17/\Hd (Ext [] w3 wr)) (fun i _=>(17-intOf i).toNat)
  case atStart=>exact⟨-1,rfl,by omega,by omega,hd er⟩
  case round=>
   obtain⟨r,rfl,hr0,hr1,hE⟩:=hrel;have HT4:=hd (HT3.o.nil hE.o);by_cases hlt:r<17
   ·by_cases hr:0<=r/\r<=15
    ·obtain⟨k,rfl⟩:∃k:Nat,r=k:=⟨r.toNat,by omega⟩;have q1:=HT4.o.ref.creg (k:=k) (by omega);have ql:=HT4.o.ref.lt;have hrs:Abe S k=S.r k:=by unfold Abe;rw[ijp hr]
     have hk16:(k:Int)<16:=by omega
     have HRS:=hd hrs;clear hr hrs;go_wp2_with fail
     refine(Yt HT4.o.chip k).mono ?_
     rintro e w5 ⟨rfl,hE5⟩;rw[HRS.o];have HE5:=hd (hE.o.trans hE5);clear hE5 q1 ql;go_wp2_with fail
     go_round
     case rel=>exact⟨(k:Int)+1,by go_num,by omega,by omega,HE5⟩
     case measure=>simp[intOf];omega
    ·have hrs:Abe S r=0:=by unfold Abe;rw[ijn hr]
     have HRS:=hd hrs;have hr2:r = -1\/r=16:=by omega
     clear hr hrs
     rcases hr2 with rfl|rfl<;>(
      go_wp2_with fail
      refine(Yt HT4.o.chip _).mono ?_
      rintro e w5 ⟨rfl,hE5⟩;rw[HRS.o];have HE5:=hd (hE.o.trans hE5);clear hE5;go_wp2_with fail
      go_round
      case rel=>exact⟨_,rfl,by omega,by omega,HE5⟩
      case measure=>simp[intOf])
   ·have HM4:=hd (HM3.o.ext hE.o (by simp));have HE4:=hd (HE3.o.trans hE.o);rename World=>w4
    clear hE;go_wp2_with fail
    have hMM:=HMM.o;subst hMM;have hgw:g<w.heap.size:=HS.o.lt;have HS4:=hd (HS.o.ext HE4.o (by simp) (by simp));have HT5:=hd (HT.o.nil HE4.o);go_loopw [92] (fun i wr=>∃k:Nat,i=.int .i64 k/\k<=6/\Hd (Ext [g] w4 wr/\Stm wr base g (n+(6-k)*10))) (fun i _=>(6-intOf i).toNat)
    case atStart=>exact⟨0,rfl,by omega,hd ⟨er,HS4.o⟩⟩
    case round=>
     obtain⟨k,rfl,hk,hI⟩:=hrel;rename World=>w5
     by_cases hk6:k<6
     ·have HM5:=hd (HM4.o.ext hI.o.1 (by simp;omega));have qm:=HM5.o.cell;have qml:=HM5.o.lt;go_wp2_with fail
      refine(Ch base g (n+(6-(k+1))*10+9) (-2) m1 _ (hI.o.2.less (by omega)) (by omega) (by omega)).mono ?_
      rintro e w6 ⟨bk,rfl,⟨hbk0,hbk1⟩,hE6,hS6⟩;have HE6:=hd (hI.o.1.trans hE6);have HS6:=hd hS6;clear qm qml hE6 hS6;go_wp2_with fail
      refine(Bk base g (n+(6-(k+1))*10+8) _ _ (HS6.o.less (by omega)) (by omega)).mono ?_
      rintro e w7 ⟨r7,rfl,⟨hr70,hr71⟩,hE7,hS7⟩;replace hr71:=hr71 (by omega);have HE7:=hd (HE6.o.trans hE7);have HS7:=hd hS7;clear hE7 hS7;go_wp2_with fail
      refine(Bk base g (n+(6-(k+1))*10+7) _ _ (HS7.o.less (by omega)) (by omega)).mono ?_
      rintro e w8 ⟨r8,rfl,⟨hr80,hr81⟩,hE8,hS8⟩;replace hr81:=hr81 (by omega);have HE8:=hd (HE7.o.trans hE8);have HS8:=hd hS8;have hg8:g<w8.heap.size:=hS8.lt;clear hE8 hS8;go_wp2_with fail
      refine(Cn base g (n+(6-(k+1))*10+6) w8.heap.size 5 3 [r7,r8,-1,255,256] _ ((HS8.o.less (by omega)).alloc _) (Blk.new _ _ _) (by omega) (by simp)).mono ?_
      rintro e w9 ⟨at',rfl,hat,hE9,hS9⟩;have hat0 : -1<=at'/\at'<=256:=by simp at hat;omega
      have HE9:=hd ((HE8.o.alloc _).trans hE9);have HS9:=hd hS9;have HT9:=hd (HT5.o.ext HE9.o);have HM9:=hd (HM4.o.ext HE9.o (by simp;omega));have qm:=HM9.o.cell;have qml:=HM9.o.lt;clear hE9 hS9 hat
      by_cases hb1:bk = -1
      ·subst hb1;by_cases ha0:0<=at'
       ·by_cases ham:at'<m0
        ·obtain⟨j,rfl⟩:∃j:Nat,at'=j:=⟨at'.toNat,by omega⟩;have hj:j<m0.toNat:=by omega
         have hjZ:(j:Int)<m0.toNat:=by omega
         have q32:w9.cell? ⟨R.A.c,32,none⟩=some (.slice (some R.A.mb) m0.toNat R.A.mcap):=by
          rw[HT9.o.ref.ref.cell,Ci _ _ _ _ (by omega)];rfl
         have qrl:=HT9.o.ref.lt;have qw:=HT9.o.ref.mem.main.cell (i:=j) hj
         have HEND:Hd (Ex ⟨m0,m1,m2,m3,m4⟩ S (-1) j=S.mem (-1) j/\setS ⟨m0,m1,m2,m3,m4⟩ S (-1) j=true):=hd (by
          unfold Ex setS;rw[ijp ⟨rfl,by omega,by dsimp only;omega⟩,ijp ⟨rfl,by omega,by dsimp only;omega⟩];exact⟨rfl,rfl⟩)
         go_wp2_with fail
         refine(Gm HT9.o.chip _ _).mono ?_
         rintro e w10 ⟨rfl,hE10⟩;rw[HEND.o.1,HEND.o.2];have HEA:=hd (HE9.o.trans hE10.nil);have HSA:=hd (HS9.o.ext hE10 (by simp) (by simp));clear hE10 q32 qrl qw;go_wp2_with fail
         go_round
         case rel=>exact⟨k+1,by go_num,by omega,hd ⟨HEA.o,HSA.o.less (by omega)⟩⟩
         case measure=>simp[intOf];omega
        ·have hamb:decide (at'<m0)=false:=by simpa using ham
         have HEND:Hd (Ex ⟨m0,m1,m2,m3,m4⟩ S (-1) at'=0/\setS ⟨m0,m1,m2,m3,m4⟩ S (-1) at'=false):=hd (by
          unfold Ex setS;rw[ijn (by dsimp only;omega),ijn (by dsimp only;omega),ijn (by dsimp only;omega),ijn (by dsimp only;omega)];exact⟨rfl,rfl⟩)
         go_wp2_with fail
         refine(Gm HT9.o.chip _ _).mono ?_
         rintro e w10 ⟨rfl,hE10⟩;rw[HEND.o.1,HEND.o.2];have HEA:=hd (HE9.o.trans hE10.nil);have HSA:=hd (HS9.o.ext hE10 (by simp) (by simp));clear hE10;go_wp2_with fail
         go_round
         case rel=>exact⟨k+1,by go_num,by omega,hd ⟨HEA.o,HSA.o.less (by omega)⟩⟩
         case measure=>simp[intOf];omega
       ·have hamb:decide (at' ≥ 0)=false:=by simpa using ha0
        have HEND:Hd (Ex ⟨m0,m1,m2,m3,m4⟩ S (-1) at'=0/\setS ⟨m0,m1,m2,m3,m4⟩ S (-1) at'=false):=hd (by
         unfold Ex setS;rw[ijn (by dsimp only;omega),ijn (by dsimp only;omega),ijn (by dsimp only;omega),ijn (by dsimp only;omega)];exact⟨rfl,rfl⟩)
        go_wp2_with fail
        refine(Gm HT9.o.chip _ _).mono ?_
        rintro e w10 ⟨rfl,hE10⟩;rw[HEND.o.1,HEND.o.2];have HEA:=hd (HE9.o.trans hE10.nil);have HSA:=hd (HS9.o.ext hE10 (by simp) (by simp));clear hE10;go_wp2_with fail
        go_round
        case rel=>exact⟨k+1,by go_num,by omega,hd ⟨HEA.o,HSA.o.less (by omega)⟩⟩
        case measure=>simp[intOf];omega
      ·have hb1b:(bk == -1)=false:=by simpa using hb1
       by_cases hb0:0<=bk
       ·by_cases hbm:bk<m1
        ·by_cases ha0:0<=at'
         ·by_cases ham:at'<m2
          ·obtain⟨j,rfl⟩:∃j:Nat,at'=j:=⟨at'.toNat,by omega⟩;obtain⟨d,rfl⟩:∃d:Nat,bk=d:=⟨bk.toNat,by omega⟩;have hj:j<m2.toNat:=by omega
           have hd':d<m1.toNat:=by omega
           have hjZ:(j:Int)<m2.toNat:=by omega
           have hdZ:(d:Int)<m1.toNat:=by omega
           have q33:w9.cell? ⟨R.A.c,33,none⟩=some (.slice (some R.A.bo) m1.toNat R.A.bcap):=by
            rw[HT9.o.ref.ref.cell,Ci _ _ _ _ (by omega)];rfl
           have q34:w9.cell? ⟨R.A.c,34,none⟩=some (.slice (some R.A.so) m1.toNat R.A.scap):=by
            rw[HT9.o.ref.ref.cell,Ci _ _ _ _ (by omega)];rfl
           have qrl:=HT9.o.ref.lt;have qb:=HT9.o.ref.stat.banks.cell (i:=d) hd';have qs:=HT9.o.ref.stat.sets.cell (i:=d) hd';have qw:=(HT9.o.ref.mem.bank d hd').cell (i:=j) hj;have qt:=(HT9.o.ref.mem.set d hd').cell (i:=j) hj;obtain⟨sv,hsv⟩:∃b,b=S.set d j:=⟨_,rfl⟩;rw[<-hsv] at qt;cases sv
           ·have hzz:=HZ.o d j (by omega) hsv.symm
            have HEND:Hd (Ex ⟨m0,m1,m2,m3,m4⟩ S d j=0/\setS ⟨m0,m1,m2,m3,m4⟩ S d j=false):=hd (by
             unfold Ex setS;rw[ijn (by omega),ijp ⟨by dsimp only;omega,by dsimp only;omega⟩,ijn (by omega),ijp ⟨by dsimp only;omega,by dsimp only;omega⟩];exact⟨hzz,hsv.symm⟩)
            clear hsv hzz;go_wp2_with fail
            refine(Gm HT9.o.chip _ _).mono ?_
            rintro e w10 ⟨rfl,hE10⟩;rw[HEND.o.1,HEND.o.2];have HEA:=hd (HE9.o.trans hE10.nil);have HSA:=hd (HS9.o.ext hE10 (by simp) (by simp));clear hE10 q33 q34 qrl qb qs qw qt;go_wp2_with fail
            go_round
            case rel=>exact⟨k+1,by go_num,by omega,hd ⟨HEA.o,HSA.o.less (by omega)⟩⟩
            case measure=>simp[intOf];omega
           ·skip
            have HEND:Hd (Ex ⟨m0,m1,m2,m3,m4⟩ S d j=S.mem d j/\setS ⟨m0,m1,m2,m3,m4⟩ S d j=true):=hd (by
             unfold Ex setS;rw[ijn (by omega),ijp ⟨by dsimp only;omega,by dsimp only;omega⟩,ijn (by omega),ijp ⟨by dsimp only;omega,by dsimp only;omega⟩];exact⟨rfl,hsv.symm⟩)
            clear hsv;go_wp2_with fail
            refine(Gm HT9.o.chip _ _).mono ?_
            rintro e w10 ⟨rfl,hE10⟩;rw[HEND.o.1,HEND.o.2];have HEA:=hd (HE9.o.trans hE10.nil);have HSA:=hd (HS9.o.ext hE10 (by simp) (by simp));clear hE10 q33 q34 qrl qb qs qw qt;go_wp2_with fail
            go_round
            case rel=>exact⟨k+1,by go_num,by omega,hd ⟨HEA.o,HSA.o.less (by omega)⟩⟩
            case measure=>simp[intOf];omega
          ·have hamb:decide (at'<m2)=false:=by simpa using ham
           have HEND:Hd (Ex ⟨m0,m1,m2,m3,m4⟩ S bk at'=0/\setS ⟨m0,m1,m2,m3,m4⟩ S bk at'=false):=hd (by
            unfold Ex setS;rw[ijn (by dsimp only;omega),ijn (by dsimp only;omega),ijn (by dsimp only;omega),ijn (by dsimp only;omega)];exact⟨rfl,rfl⟩)
           go_wp2_with fail
           refine(Gm HT9.o.chip _ _).mono ?_
           rintro e w10 ⟨rfl,hE10⟩;rw[HEND.o.1,HEND.o.2];have HEA:=hd (HE9.o.trans hE10.nil);have HSA:=hd (HS9.o.ext hE10 (by simp) (by simp));clear hE10;go_wp2_with fail
           go_round
           case rel=>exact⟨k+1,by go_num,by omega,hd ⟨HEA.o,HSA.o.less (by omega)⟩⟩
           case measure=>simp[intOf];omega
         ·have hamb:decide (at' ≥ 0)=false:=by simpa using ha0
          have HEND:Hd (Ex ⟨m0,m1,m2,m3,m4⟩ S bk at'=0/\setS ⟨m0,m1,m2,m3,m4⟩ S bk at'=false):=hd (by
           unfold Ex setS;rw[ijn (by dsimp only;omega),ijn (by dsimp only;omega),ijn (by dsimp only;omega),ijn (by dsimp only;omega)];exact⟨rfl,rfl⟩)
          go_wp2_with fail
          refine(Gm HT9.o.chip _ _).mono ?_
          rintro e w10 ⟨rfl,hE10⟩;rw[HEND.o.1,HEND.o.2];have HEA:=hd (HE9.o.trans hE10.nil);have HSA:=hd (HS9.o.ext hE10 (by simp) (by simp));clear hE10;go_wp2_with fail
          go_round
          case rel=>exact⟨k+1,by go_num,by omega,hd ⟨HEA.o,HSA.o.less (by omega)⟩⟩
          case measure=>simp[intOf];omega
        ·have hbmb:decide (bk<m1)=false:=by simpa using hbm
         have HEND:Hd (Ex ⟨m0,m1,m2,m3,m4⟩ S bk at'=0/\setS ⟨m0,m1,m2,m3,m4⟩ S bk at'=false):=hd (by
          unfold Ex setS;rw[ijn (by dsimp only;omega),ijn (by dsimp only;omega),ijn (by dsimp only;omega),ijn (by dsimp only;omega)];exact⟨rfl,rfl⟩)
         go_wp2_with fail
         refine(Gm HT9.o.chip _ _).mono ?_
         rintro e w10 ⟨rfl,hE10⟩;rw[HEND.o.1,HEND.o.2];have HEA:=hd (HE9.o.trans hE10.nil);have HSA:=hd (HS9.o.ext hE10 (by simp) (by simp));clear hE10;go_wp2_with fail
         go_round
         case rel=>exact⟨k+1,by go_num,by omega,hd ⟨HEA.o,HSA.o.less (by omega)⟩⟩
         case measure=>simp[intOf];omega
       ·have hb0b:decide (bk ≥ 0)=false:=by simpa using hb0
        have HEND:Hd (Ex ⟨m0,m1,m2,m3,m4⟩ S bk at'=0/\setS ⟨m0,m1,m2,m3,m4⟩ S bk at'=false):=hd (by
         unfold Ex setS;rw[ijn (by dsimp only;omega),ijn (by dsimp only;omega),ijn (by dsimp only;omega),ijn (by dsimp only;omega)];exact⟨rfl,rfl⟩)
        go_wp2_with fail
        refine(Gm HT9.o.chip _ _).mono ?_
        rintro e w10 ⟨rfl,hE10⟩;rw[HEND.o.1,HEND.o.2];have HEA:=hd (HE9.o.trans hE10.nil);have HSA:=hd (HS9.o.ext hE10 (by simp) (by simp));clear hE10;go_wp2_with fail
        go_round
        case rel=>exact⟨k+1,by go_num,by omega,hd ⟨HEA.o,HSA.o.less (by omega)⟩⟩
        case measure=>simp[intOf];omega
     ·have HE5:=hd (HE4.o.nil.trans hI.o.1);have HS5:=hd (hI.o.2.less (by omega:n<=n+(6-k)*10));go_wp2_with fail
      go_ret
      exact⟨rfl,HE5.o,HS5.o⟩
end
end Go.Proofs.YtkgmhggliifkjaaGreat
