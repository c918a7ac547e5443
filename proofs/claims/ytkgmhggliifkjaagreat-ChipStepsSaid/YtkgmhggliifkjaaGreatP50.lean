import Derived.Test.YtkgmhggliifkjaaGreatP26
namespace Go.Proofs.YtkgmhggliifkjaaGreat
open Go.RowKit Go.Proofs.Tryz
set_option linter.all false
set_option maxHeartbeats 8000000
set_option maxRecDepth 100000
def Aa9 (base g n len:Nat)(w:World)(e:Ending)(w':World):Prop:=
 ∃v k,e=.returned v/\Cd w' w.heap.size v k/\k<=len+1/\Ext [g] w w'/\Stm w' base g n
theorem Df.at {w:World}{b n:Nat}(h:Df w b n)(k:Nat)(hk:k<n):∃y:Ins,∀f v,y.cells[f]? = some v->w.cell? ⟨b,k*9+f,none⟩=some v:=by
 obtain⟨xs,hx,hB⟩:=h;refine⟨xs[k]'(by omega),fun f v hv=>?_⟩
 rw[hB.cell];have:=Da xs k _ (List.getElem?_eq_getElem (by omega)) f v hv;simpa using this
theorem Tk (base g n:Nat)(A:Option Addr)(cap:Nat)(w:World)(h:RdC w A [])(hS:Stm w base g (n+10)) :
  Calls prog 23 #[.pointer (some g),.slice A 0 cap] w (Aa9 base g n 0 w):=by
 have HS:=hd hS;clear hS;go_enter func23,ntmps23
 go_wp2_with fail
 refine(Nl A cap [] w h (by simp)).mono ?_
 rintro e w1 ⟨v,rfl,hC,hE⟩;have HS1:=hd (HS.o.ext hE (by simp) (by simp));have HE1:=hd hE;have hgw:g<w1.heap.size:=HS1.o.lt;have hgg:g<w.heap.size:=HS.o.lt;have HBW:Hd (base<=w.heap.size):=hd (nt HS.o.base (Nat.le_of_lt hgg));rcases hC with⟨rfl,_⟩|⟨b,cap1,rfl,hn1,hcap1,hC,hb1⟩
 ·go_wp2_with fail
  refine(Ch base g n _ _ _ (HS1.o.less (by omega)) (by omega) (by omega)).mono ?_
  rintro e w2 ⟨r,rfl,_,hE2,hS2⟩
  obtain⟨cap',w3,hr,h1,h2,hC3,hE3⟩:=Hs (w:=w2.alloc (.cells (codeCells [⟨r,0,0,0,0,0,0,0,0⟩]).toArray 76)) (n:=0) (m:=1) (cap:=0) (c2:=1) (b2:=w2.heap.size) (d:=0) none [] [⟨r,0,0,0,0,0,0,0,0⟩] rfl rfl (.inl ⟨rfl,rfl,rfl⟩)
   (fun j v hj=>by rw[Nat.zero_add,(Blk.new _ _ _).cell];simpa using hj) (by omega) (by omega) (by omega)
  have HX:=hd (And.intro h1 (And.intro h2 hC3));rw[show(w2.alloc (.cells (codeCells [⟨r,0,0,0,0,0,0,0,0⟩]).toArray 76)).heap.size=w2.heap.size+1 by simp] at HX;have HE:Hd (Ext [g] w w3):=hd ((((HE1.o.nil).trans hE2).alloc _).trans hE3.nil);have HST:Hd (Stm w3 base g n):=hd ((hS2.alloc _).ext hE3 (by simp) (by simp));have hsz:w.heap.size<=w2.heap.size:=nt HE1.o.size hE2.size;clear h1 h2 hC3 hE3 hE2 hS2;go_wp2_with (at_builtin;refine Lib.wpList_append_run _ rfl _ _ _ _ rfl _ _ rfl rfl _ _ (hr _) ?_)
  go_ret
  obtain⟨h1,h2,hC3⟩:=HX.o;exact⟨_,1,rfl,.inr ⟨_,_,rfl,by omega,h2,hC3,by omega⟩,by omega,HE.o,HST.o⟩
 ·have hbl:=hC.lt;go_wp2_with fail
  refine(Ch base g n _ _ _ (HS1.o.less (by omega)) (by omega) (by omega)).mono ?_
  rintro e w2 ⟨r,rfl,_,hE2,hS2⟩;have hsz:w.heap.size<=w2.heap.size:=nt HE1.o.size hE2.size;have hC2:=(hC.ext hE2 (by simp;omega)).ext (w':=w2.alloc (.cells (codeCells [⟨r,0,0,0,0,0,0,0,0⟩]).toArray 76)) ((Ext.refl [] _).alloc _) (by simp)
  have hrun:∃b' cap' w3,(∀ty,(Builtin.append_ #[28,28] ty #[.slice (some b) 0 cap1,.slice (some w2.heap.size) 1 1]).run prog (w2.alloc (.cells (codeCells [⟨r,0,0,0,0,0,0,0,0⟩]).toArray 76))=.ok (.slice (some ⟨b',0,none⟩) 1 cap') w3)/\1<=cap'/\cap'<=9223372036854775807/\Df w3 b' cap'/\w.heap.size<=b'/\Ext [b] (w2.alloc (.cells (codeCells [⟨r,0,0,0,0,0,0,0,0⟩]).toArray 76)) w3:=by
   by_cases hc:1<=cap1
   ·obtain⟨w3,hr,hC3,hE3⟩:=Gk (n:=0) (m:=1) (cap:=cap1) (c2:=1) (b2:=w2.heap.size) (d:=0) hC2 [⟨r,0,0,0,0,0,0,0,0⟩] rfl (fun j v hj=>by rw[Nat.zero_add,(Blk.new _ _ _).cell];simpa using hj) (by omega) (by omega);exact⟨b,cap1,w3,hr,hc,hcap1,hC3,hb1,hE3⟩
   ·obtain⟨cap',w3,hr,h1,h2,hC3,hE3⟩:=Hs (w:=w2.alloc (.cells (codeCells [⟨r,0,0,0,0,0,0,0,0⟩]).toArray 76)) (n:=0) (m:=1) (cap:=cap1) (c2:=1) (b2:=w2.heap.size) (d:=0) (some b) [] [⟨r,0,0,0,0,0,0,0,0⟩] rfl rfl (.inr ⟨_,_,rfl,by simp[Go.Proofs.YtkgmhggliifkjaaGreat.codeCells]⟩)
     (fun j v hj=>by rw[Nat.zero_add,(Blk.new _ _ _).cell];simpa using hj) (by omega) (by omega) (by omega)
    exact⟨_,cap',w3,hr,h1,h2,hC3,by simp;omega,hE3.nil⟩
  obtain⟨b',cap',w3,hr,h1,h2,hC3,hb',hE3⟩:=hrun;have HX:=hd (And.intro h1 (And.intro h2 (And.intro hC3 hb')));have HE:Hd (Ext [g] w w3):=hd ((((HE1.o.nil).trans hE2).alloc _).step hE3 (fun i hi=>.inr (by rw[ms hi];exact hb1)));have HST:Hd (Stm w3 base g n):=hd ((hS2.alloc _).ext hE3 (by simp;omega) (fun i hi=>by rw[ms hi];exact nt HBW.o hb1));clear h1 h2 hC3 hE3 hE2 hS2 hC2 hC hb';go_wp2_with (at_builtin;refine Lib.wpList_append_run _ rfl _ _ _ _ rfl _ _ rfl rfl _ _ (hr _) ?_)
  go_ret
  obtain⟨h1,h2,hC3,hb'⟩:=HX.o;exact⟨_,1,rfl,.inr ⟨_,_,rfl,by omega,h2,hC3,hb'⟩,by omega,HE.o,HST.o⟩
theorem Fo {base g n len b cap:Nat}{w w4:World}(hC:Df w4 b cap)(hE:Ext [g] w w4)(hS:Stm w4 base g n)(hb:w.heap.size<=b)(hbase:base<=w.heap.size)(hg:g<w.heap.size)(k f:Nat)(y:Int)(hk:k<len)(hl:len<=cap)(hf:f<9)(hcap:cap<=9223372036854775807) :
  Aa9 base g n len w (.returned (.slice (some b) len cap)) (w4.setCell ⟨b,k*9+f,none⟩ y):=
 ⟨_,len,rfl,.inr ⟨_,_,rfl,hl,hcap,hC.set k f y (by omega) hf,hb⟩,by omega,hE.setCell (.inr hb) _,hS.setAt (by omega) (by omega)⟩
theorem Vv (base g n:Nat)(A:Option Addr)(cap:Nat)(xs:List Ins)(len:Nat)(w:World)(h:RdC w A xs)(hlen:xs.length=len)(h0:0<len)(hl:len<=800000)(hS:Stm w base g (n+10)) :
  Calls prog 23 #[.pointer (some g),.slice A len cap] w (Aa9 base g n len w):=by
 have HS:=hd hS;have hcl:=Nl A cap xs w h (by omega);rw[hlen] at hcl;have HCL:=hd hcl;clear hS h hlen hcl;go_enter func23,ntmps23
 go_wp2_with fail
 refine HCL.o.mono ?_
 rintro e w1 ⟨v,rfl,hC,hE⟩;rcases hC with⟨rfl,hx0⟩|⟨b,cap1,rfl,hn1,hcap1,hC,hb1⟩
 ·omega
 have HS1:=hd (HS.o.ext hE (by simp) (by simp));have HE1:=hd hE;have hgw:g<w1.heap.size:=HS1.o.lt;have hgg:g<w.heap.size:=HS.o.lt;have HBW:Hd (base<=w.heap.size):=hd (nt HS.o.base (Nat.le_of_lt hgg));have hbl:=hC.lt;have HC1:=hd hC;clear hE hC;go_wp2_with fail
 refine(Bk base g (n+8) _ _ (HS1.o.less (by omega)) (by omega)).mono ?_
 rintro e w2 ⟨r,rfl,⟨hr0,hr1⟩,hE2,hS2⟩;obtain⟨k,rfl⟩:∃k:Nat,r=k:=⟨r.toNat,by omega⟩;obtain⟨m,rfl⟩:∃m,len=k+1+m:=⟨len-(k+1),by have:=hr1 (by omega);omega⟩;have HC2:=hd (HC1.o.ext hE2 (by simp;omega));have HS2:=hd hS2;have HE2:=hd ((HE1.o.nil).trans hE2);clear hr0 hr1 hE2 hS2;go_wp2_with fail
 refine(Bk base g (n+7) _ _ (HS2.o.less (by omega)) (by omega)).mono ?_
 rintro e w3 ⟨s,rfl,⟨hs0,hs1⟩,hE3,hS3⟩;have HC3:=hd (HC2.o.ext hE3 (by simp;omega));have HS3:=hd hS3;have HE3:=hd (HE2.o.trans hE3);have hs11:s=0\/s=1\/s=2\/s=3\/s=4\/s=5\/s=6\/s=7\/s=8\/s=9\/s=10:=by have:=hs1 (by omega);omega
 clear hs0 hs1 hE3 hS3;rcases hs11 with rfl|rfl|rfl|rfl|rfl|rfl|rfl|rfl|rfl|rfl|rfl
 ·go_wp2_with fail
  refine(Ch base g (n+5) 0 20 _ (HS3.o.less (by omega)) (by omega) (by omega)).mono ?_
  rintro e w4 ⟨rp,rfl,_,hE,hS⟩;have HC4:=hd (HC3.o.ext hE (by simp;omega));have HS4:=hd hS;have HE4:=hd (HE3.o.trans hE);clear hE hS;obtain⟨y,hy⟩:=HC4.o.at k (by omega);have q1:=hy 0 _ rfl;have q2:=HC4.o.frozen (k*9);have q3:=HC4.o.lt;simp only[Nat.add_zero] at q1;clear hy;go_wp2_with fail
  go_ret
  exact Fo HC4.o HE4.o (HS4.o.less (by omega)) hb1 HBW.o hgg k 0 rp (by omega) hn1 (by omega) hcap1
 ·obtain⟨y3,hy3⟩:=HC3.o.at k (by omega);have c6:=hy3 6 _ rfl;generalize y3.p=p at c6;clear hy3;by_cases hp:p=0
  ·subst hp;go_wp2_with fail
   refine(Cn base g (n+5) w3.heap.size 8 3 [0,1,2,3,4,15,16,34] _ ((HS3.o.less (by omega)).alloc _) (Blk.new _ _ _) (by have:=HS3.o.lt;omega) (by decide)).mono ?_
   rintro e w4 ⟨rp,rfl,_,hE,hS⟩;have hEE:=((Ext.refl [g] w3).alloc (.cells (Db [0,1,2,3,4,15,16,34]) 3)).trans hE;have HC4:=hd (HC3.o.ext hEE (by simp;omega));have HS4:=hd hS;have HE4:=hd (HE3.o.trans hEE);clear hE hS hEE;obtain⟨y,hy⟩:=HC4.o.at k (by omega);have q1:=hy 1 _ rfl;have q2:=HC4.o.frozen (k*9+1);have q3:=HC4.o.lt;clear hy;go_wp2_with fail
   go_ret
   exact Fo HC4.o HE4.o (HS4.o.less (by omega)) hb1 HBW.o hgg k 1 rp (by omega) hn1 (by omega) hcap1
  ·have hp2:(p==0)=false:=by simpa using hp
   go_wp2_with fail
   go_ret
   exact⟨_,_,rfl,.inr ⟨_,_,rfl,hn1,hcap1,HC3.o,hb1⟩,by omega,HE3.o,HS3.o.less (by omega)⟩
 ·go_wp2_with fail
  refine(Cn base g (n+5) w3.heap.size 7 3 [-1,8,15,16,1,31,32] _ ((HS3.o.less (by omega)).alloc _) (Blk.new _ _ _) (by have:=HS3.o.lt;omega) (by decide)).mono ?_
  rintro e w4 ⟨rp,rfl,_,hE,hS⟩;have hEE:=((Ext.refl [g] w3).alloc (.cells (Db [-1,8,15,16,1,31,32]) 3)).trans hE;have HC4:=hd (HC3.o.ext hEE (by simp;omega));have HS4:=hd hS;have HE4:=hd (HE3.o.trans hEE);clear hE hS hEE;obtain⟨y,hy⟩:=HC4.o.at k (by omega);have q1:=hy 2 _ rfl;have q2:=HC4.o.frozen (k*9+2);have q3:=HC4.o.lt;clear hy;go_wp2_with fail
  go_ret
  exact Fo HC4.o HE4.o (HS4.o.less (by omega)) hb1 HBW.o hgg k 2 rp (by omega) hn1 (by omega) hcap1
 ·go_wp2_with fail
  refine(Cn base g (n+5) w3.heap.size 5 3 [-1,7,8,15,16] _ ((HS3.o.less (by omega)).alloc _) (Blk.new _ _ _) (by have:=HS3.o.lt;omega) (by decide)).mono ?_
  rintro e w4 ⟨rp,rfl,_,hE,hS⟩;have hEE:=((Ext.refl [g] w3).alloc (.cells (Db [-1,7,8,15,16]) 3)).trans hE;have HC4:=hd (HC3.o.ext hEE (by simp;omega));have HS4:=hd hS;have HE4:=hd (HE3.o.trans hEE);clear hE hS hEE;obtain⟨y,hy⟩:=HC4.o.at k (by omega);have q1:=hy 3 _ rfl;have q2:=HC4.o.frozen (k*9+3);have q3:=HC4.o.lt;clear hy;go_wp2_with fail
  go_ret
  exact Fo HC4.o HE4.o (HS4.o.less (by omega)) hb1 HBW.o hgg k 3 rp (by omega) hn1 (by omega) hcap1
 ·go_wp2_with fail
  refine(Cn base g (n+5) w3.heap.size 5 3 [-1,7,8,16,3] _ ((HS3.o.less (by omega)).alloc _) (Blk.new _ _ _) (by have:=HS3.o.lt;omega) (by decide)).mono ?_
  rintro e w4 ⟨rp,rfl,_,hE,hS⟩;have hEE:=((Ext.refl [g] w3).alloc (.cells (Db [-1,7,8,16,3]) 3)).trans hE;have HC4:=hd (HC3.o.ext hEE (by simp;omega));have HS4:=hd hS;have HE4:=hd (HE3.o.trans hEE);clear hE hS hEE;obtain⟨y,hy⟩:=HC4.o.at k (by omega);have q1:=hy 4 _ rfl;have q2:=HC4.o.frozen (k*9+4);have q3:=HC4.o.lt;clear hy;go_wp2_with fail
  go_ret
  exact Fo HC4.o HE4.o (HS4.o.less (by omega)) hb1 HBW.o hgg k 4 rp (by omega) hn1 (by omega) hcap1
 ·go_wp2_with fail
  refine(Cn base g (n+5) w3.heap.size 8 3 [-1,2,7,8,1000,1001,-1000,-1001] _ ((HS3.o.less (by omega)).alloc _) (Blk.new _ _ _) (by have:=HS3.o.lt;omega) (by decide)).mono ?_
  rintro e w4 ⟨rp,rfl,_,hE,hS⟩;have hEE:=((Ext.refl [g] w3).alloc (.cells (Db [-1,2,7,8,1000,1001,-1000,-1001]) 3)).trans hE;have HC4:=hd (HC3.o.ext hEE (by simp;omega));have HS4:=hd hS;have HE4:=hd (HE3.o.trans hEE);clear hE hS hEE;obtain⟨y,hy⟩:=HC4.o.at k (by omega);have q1:=hy 5 _ rfl;have q2:=HC4.o.frozen (k*9+5);have q3:=HC4.o.lt;clear hy;go_wp2_with fail
  go_ret
  exact Fo HC4.o HE4.o (HS4.o.less (by omega)) hb1 HBW.o hgg k 5 rp (by omega) hn1 (by omega) hcap1
 ·obtain⟨y3,hy3⟩:=HC3.o.at k (by omega);have c1:=hy3 1 _ rfl;generalize y3.k=p at c1;clear hy3;by_cases hp:p=0
  ·subst hp;go_wp2_with fail
   refine(Cn base g (n+5) w3.heap.size 5 3 [0,1,16,17,-1] _ ((HS3.o.less (by omega)).alloc _) (Blk.new _ _ _) (by have:=HS3.o.lt;omega) (by decide)).mono ?_
   rintro e w4 ⟨rp,rfl,_,hE,hS⟩;have hEE:=((Ext.refl [g] w3).alloc (.cells (Db [0,1,16,17,-1]) 3)).trans hE;have HC4:=hd (HC3.o.ext hEE (by simp;omega));have HS4:=hd hS;have HE4:=hd (HE3.o.trans hEE);clear hE hS hEE;obtain⟨y,hy⟩:=HC4.o.at k (by omega);have q1:=hy 6 _ rfl;have q2:=HC4.o.frozen (k*9+6);have q3:=HC4.o.lt;clear hy;go_wp2_with fail
   go_ret
   exact Fo HC4.o HE4.o (HS4.o.less (by omega)) hb1 HBW.o hgg k 6 rp (by omega) hn1 (by omega) hcap1
  ·have hp2:(p==0)=false:=by simpa using hp
   by_cases hp3:4<=p
   ·by_cases hp4:p<=15
    ·go_wp2_with fail
     refine(Cn base g (n+5) w3.heap.size 5 3 [0,1,16,17,-1] _ ((HS3.o.less (by omega)).alloc _) (Blk.new _ _ _) (by have:=HS3.o.lt;omega) (by decide)).mono ?_
     rintro e w4 ⟨rp,rfl,_,hE,hS⟩;have hEE:=((Ext.refl [g] w3).alloc (.cells (Db [0,1,16,17,-1]) 3)).trans hE;have HC4:=hd (HC3.o.ext hEE (by simp;omega));have HS4:=hd hS;have HE4:=hd (HE3.o.trans hEE);clear hE hS hEE;obtain⟨y,hy⟩:=HC4.o.at k (by omega);have q1:=hy 6 _ rfl;have q2:=HC4.o.frozen (k*9+6);have q3:=HC4.o.lt;clear hy;go_wp2_with fail
     go_ret
     exact Fo HC4.o HE4.o (HS4.o.less (by omega)) hb1 HBW.o hgg k 6 rp (by omega) hn1 (by omega) hcap1
    ·have hp5:decide (p<=15)=false:=by simpa using hp4
     go_wp2_with fail
     go_ret
     exact⟨_,_,rfl,.inr ⟨_,_,rfl,hn1,hcap1,HC3.o,hb1⟩,by omega,HE3.o,HS3.o.less (by omega)⟩
   ·have hp5:decide (4<=p)=false:=by simpa using hp3
    go_wp2_with fail
    go_ret
    exact⟨_,_,rfl,.inr ⟨_,_,rfl,hn1,hcap1,HC3.o,hb1⟩,by omega,HE3.o,HS3.o.less (by omega)⟩
 ·go_wp2_with fail
  refine(Cn base g (n+5) w3.heap.size 6 3 [0,31,32,2147483647,2147483648,-2147483649] _ ((HS3.o.less (by omega)).alloc _) (Blk.new _ _ _) (by have:=HS3.o.lt;omega) (by decide)).mono ?_
  rintro e w4 ⟨rp,rfl,_,hE,hS⟩;have hEE:=((Ext.refl [g] w3).alloc (.cells (Db [0,31,32,2147483647,2147483648,-2147483649]) 3)).trans hE;have HC4:=hd (HC3.o.ext hEE (by simp;omega));have HS4:=hd hS;have HE4:=hd (HE3.o.trans hEE);clear hE hS hEE;obtain⟨y,hy⟩:=HC4.o.at k (by omega);have q1:=hy 7 _ rfl;have q2:=HC4.o.frozen (k*9+7);have q3:=HC4.o.lt;clear hy;go_wp2_with fail
  go_ret
  exact Fo HC4.o HE4.o (HS4.o.less (by omega)) hb1 HBW.o hgg k 7 rp (by omega) hn1 (by omega) hcap1
 ·go_wp2_with fail
  refine(Cn base g (n+5) w3.heap.size 7 3 [0,1,256,257,1000000,1000001,-1] _ ((HS3.o.less (by omega)).alloc _) (Blk.new _ _ _) (by have:=HS3.o.lt;omega) (by decide)).mono ?_
  rintro e w4 ⟨rp,rfl,_,hE,hS⟩;have hEE:=((Ext.refl [g] w3).alloc (.cells (Db [0,1,256,257,1000000,1000001,-1]) 3)).trans hE;have HC4:=hd (HC3.o.ext hEE (by simp;omega));have HS4:=hd hS;have HE4:=hd (HE3.o.trans hEE);clear hE hS hEE;obtain⟨y,hy⟩:=HC4.o.at k (by omega);have q1:=hy 8 _ rfl;have q2:=HC4.o.frozen (k*9+8);have q3:=HC4.o.lt;clear hy;go_wp2_with fail
  go_ret
  exact Fo HC4.o HE4.o (HS4.o.less (by omega)) hb1 HBW.o hgg k 8 rp (by omega) hn1 (by omega) hcap1
 ·go_wp2_with fail
  refine(Xm b cap1 k m _ HC3.o hn1 hcap1).mono ?_
  rintro e w4 ⟨rfl,hC4,hE4⟩;have HC4:=hd hC4;have HE4:Hd (Ext [g] w w4):=hd (HE3.o.step hE4 (fun i hi=>.inr (by rw[ms hi];exact hb1)));have HS4:Hd (Stm w4 base g n):=hd ((HS3.o.less (by omega)).ext hE4 (by simp;omega) (fun i hi=>by rw[ms hi];exact nt HBW.o hb1));clear hC4 hE4;go_wp2_with fail
  go_ret
  exact⟨_,_,rfl,.inr ⟨_,_,rfl,by omega,hcap1,HC4.o,hb1⟩,by omega,HE4.o,HS4.o⟩
 ·go_wp2_with fail
  refine(Cn base g (n+5) w3.heap.size 3 3 [4,3,16] _ ((HS3.o.less (by omega)).alloc _) (Blk.new _ _ _) (by have:=HS3.o.lt;omega) (by decide)).mono ?_
  rintro e w4 ⟨rp,rfl,_,hE,hS⟩;have hEE:=((Ext.refl [g] w3).alloc (.cells (Db [4,3,16]) 3)).trans hE;have HC4:=hd (HC3.o.ext hEE (by simp;omega));have HS4:=hd hS;have HE4:=hd (HE3.o.trans hEE);clear hE hS hEE;go_wp2_with fail
  have hbw4:b<w4.heap.size:=HC4.o.lt;have hgw4:g<w4.heap.size:=HS4.o.lt
  have HI:Hd (Calls prog 59 #[.slice (some b) (k+1+m) cap1,k,.slice (some w4.heap.size) 1 1] (w4.alloc (.cells (codeCells [⟨rp,0,0,0,0,0,0,0,0⟩]).toArray 76)) (Ahf b (k+1+m+1) (w4.alloc (.cells (codeCells [⟨rp,0,0,0,0,0,0,0,0⟩]).toArray 76)))):=hd (by
   have hCA:=HC4.o.ext (w':=w4.alloc (.cells (codeCells [⟨rp,0,0,0,0,0,0,0,0⟩]).toArray 76)) ((Ext.refl [] _).alloc _) (by simp);by_cases hrm:k+1+m+1<=cap1
   ·exact Xn b cap1 k m w4.heap.size 1 ⟨rp,0,0,0,0,0,0,0,0⟩ _ hCA (Blk.new _ _ _) (by omega) hrm hcap1
   ·obtain rfl:cap1=k+1+m:=by omega
    exact Xo b k m w4.heap.size 1 ⟨rp,0,0,0,0,0,0,0,0⟩ _ hCA (Blk.new _ _ _) (by omega) (by omega))
  refine HI.o.mono ?_
  rintro e w5 ⟨b',cap',rfl,h1,h2,hC5,hbb,hE5⟩;have HX:=hd (And.intro h1 (And.intro h2 hC5));have hsz:w.heap.size<=w4.heap.size:=HE4.o.size;have HB5:Hd (w.heap.size<=b'):=hd (by rcases hbb with rfl|hbb;exact hb1;simp at hbb;omega);have HE5:Hd (Ext [g] w w5):=hd ((HE4.o.alloc _).step hE5 (fun i hi=>.inr (by rw[ms hi];exact hb1)));have HS5:Hd (Stm w5 base g n):=hd (((HS4.o.less (by omega)).alloc _).ext hE5 (by simp;omega) (fun i hi=>by rw[ms hi];exact nt HBW.o hb1));clear h1 h2 hC5 hE5 hbb;go_wp2_with fail
  go_ret
  obtain⟨h1,h2,hC5⟩:=HX.o;exact⟨_,_,rfl,.inr ⟨_,_,rfl,h1,h2,hC5,HB5.o⟩,Nat.le_refl _,HE5.o,HS5.o⟩
section
attribute [local irreducible] Ax
def Cs (w:World)(B:Nat)(v:Value)(n:Nat):Prop:=∃A cap xs,v=.slice A n cap/\xs.length=n/\RdC w A xs/\∀a,A=some a->B<=a.block
theorem Cs.of_cd {w:World}{B n:Nat}{v:Value}(h:Cd w B v n):Cs w B v n:=by
 rcases h with⟨rfl,rfl⟩|⟨b,cap,rfl,h1,h2,hC,hb⟩
 ·exact⟨none,0,[],rfl,rfl,.inl rfl,fun a h=>by cases h⟩
 ·obtain⟨xs,hx,hr⟩:=hC.reads n h1;exact⟨_,cap,xs,rfl,hx,hr,fun a h=>by cases h;exact hb⟩
theorem Cs.of_own {w:World}{B n:Nat}{v:Value}{xs:List Ins}(h:w.ownsRow B 76 9 v n (codeCells xs))(hx:xs.length=n):Cs w B v n:=by
 obtain⟨A,cap,rfl,hcap,hA⟩:=Rk h;cases A with
 | none=>
  refine⟨none,cap,xs,rfl,hx,.inl (List.eq_nil_of_length_eq_zero ?_),fun a h=>by cases h⟩
  rcases Nat.eq_zero_or_pos n with h0|h0
  ·omega
  ·obtain⟨g,he,_⟩:=hA h0;cases he
 | some a=>
  rcases Nat.eq_zero_or_pos n with h0|h0
  ·rcases h.2 with⟨he,_⟩|⟨g,cap',cur,he,hb,_⟩
   ·cases he
   ·cases he
    exact⟨_,cap,xs,rfl,hx,.inl (List.eq_nil_of_length_eq_zero (by omega)),fun a h=>by cases h;exact hb⟩
  ·obtain⟨g,he,hb,_⟩:=hA h0;cases he
   refine⟨_,cap,xs,rfl,hx,.inr ⟨g,0,rfl,fun k x hxk j v hv=>?_⟩,fun a h=>by cases h;exact hb⟩
   rw[Nat.zero_add];exact Ty h _ v (Da xs k x hxk j v hv)
theorem Cs.ext {S:List Nat}{w w':World}{B n:Nat}{v:Value}(h:Cs w B v n)(hE:Ext S w w')(hS:∀x,x∈S->x<B):Cs w' B v n:=by
 obtain⟨A,cap,xs,rfl,hx,hr,hb⟩:=h;exact⟨A,cap,xs,rfl,hx,hr.ext hE (fun a ha hm=>by have:=hS _ hm;have:=hb a ha;omega),hb⟩
theorem Cs.mono {w:World}{B C n:Nat}{v:Value}(h:Cs w B v n)(hC:C<=B):Cs w C v n:=by
 obtain⟨A,cap,xs,rfl,hx,hr,hb⟩:=h;exact⟨A,cap,xs,rfl,hx,hr,fun a ha=>nt hC (hb a ha)⟩
theorem Ys (base g n len B:Nat)(v:Value)(w:World)(h:Cs w B v len)(hl:len<=800000)(hS:Stm w base g (n+10)) :
  Calls prog 23 #[.pointer (some g),v] w fun e w'=>∃v' k,e=.returned v'/\Cs w' w.heap.size v' k/\k<=len+1/\Ext [g] w w'/\Stm w' base g n:=by
 obtain⟨A,cap,xs,rfl,hx,hr,hb⟩:=h;by_cases h0:len=0
 ·subst h0;have hx0:xs=[]:=List.eq_nil_of_length_eq_zero hx;subst hx0;refine(Tk base g n A cap w hr hS).mono ?_
  rintro e w' ⟨v',k,rfl,h1,h2,h3,h4⟩;exact⟨v',k,rfl,Cs.of_cd h1,h2,h3,h4⟩
 ·refine(Vv base g n A cap xs len w hr hx (by omega) hl hS).mono ?_
  rintro e w' ⟨v',k,rfl,h1,h2,h3,h4⟩;exact⟨v',k,rfl,Cs.of_cd h1,h2,h3,h4⟩
theorem Abb {fn:Func}{p u:Tmp}(h:fn.results=#[.cell p 27,.tmp u])(tmps:Array Value)(w:World)(g:Nat)(m:Mc)(v:Value)
  (hp:tmps.getD p undef=.pointer (some g)) (hu:tmps.getD u undef=v) (hg:Blk w g 27 m.cells.toArray) :
  (results fn tmps).run prog w=.ok (.tuple #[.agg m.cells.toArray,v]) w:=by
 have hl:=run_loadVar_row (P:=prog) w g _ 27 m.cells.toArray (0,0) _ hg underlying27 rfl (by kernel_rfl);rw[results_cell_tmp h,hp,hu];simp only[asAddr,Sem.run_pure,Result.andThen_ok,hl]
def Ahp (base g n:Nat)(w:World)(e:Ending)(w':World):Prop:=
 ∃(m:Mc) (v:Value) (len:Nat),e=.returned (.tuple #[.agg m.cells.toArray,v])/\Cs w' w.heap.size v len/\len<=60000/\Ext [g] w w'/\Stm w' base g n
def Vw (base g n:Nat)(w:World)(k:Nat)(v:Value)(wr:World):Prop:=Ext [g] w wr/\Stm wr base g (n+(10-k)*20)/\∃len,Cs wr (w.heap.size+1) v len/\len<=50000+k
theorem Ul (base g n:Nat)(w:World)(h:Stm w base g (n+6001000)) :
  Calls prog 5 #[.pointer (some g)] w (Ahp base g n w):=by
 have HST:=hd h;have HG:=hd h.lt;have HBW:Hd (base<=w.heap.size):=hd (nt h.base (Nat.le_of_lt h.lt));clear h;go_enter func5,ntmps5
 go_wp2_with fail
 refine(Yr base g (n+6000900) _ ((HST.o.less (by omega)).alloc _)).mono ?_
 rintro e w1 ⟨⟨m0,m1,m2,m3,m4⟩,rfl,hE1,hS1⟩;simp only[Mc.cells];have HR1:=hd (((Blk.new w 27 #[(0:Int),(0:Int),(0:Int),(0:Int),(0:Int)]).ext hE1 (by have:=HG.o;simp;omega)).alloc (.cells #[m0,m1,m2,m3,m4] 27));have HM1:=hd (Blk.new w1 27 #[m0,m1,m2,m3,m4]);have HE1:Hd (Ext [g] w (w1.alloc (.cells #[m0,m1,m2,m3,m4] 27))):=hd ((((Ext.refl [g] w).alloc _).trans hE1).alloc _);have HS1:=hd (hS1.alloc (.cells #[m0,m1,m2,m3,m4] 27));have hgw1:g<w1.heap.size:=hS1.lt;have hww1:w.heap.size<w1.heap.size:=by have:=hE1.size;simp at this;omega
 clear hE1 hS1;go_wp2_with fail
 refine Am 4 (JS base g (n+6000800) _) (Ext [g]) (Bw [(3,Ef 15)]) (by kernel_rfl) (by kernel_rfl) JS.less ?_ (JS.start (Stm.less HS1.o (by omega))) ?_
 ·repeat(first|exact Ah.nil|refine Ah.cons Dt.stays ?_|refine Ah.cons Ik.stays ?_|refine Ah.cons Fr.stays ?_|refine Ah.cons Jt.stays ?_|refine Ah.cons Kx.stays ?_|refine Ah.cons Gs.stays ?_|refine Ah.cons Ju.stays ?_|refine Ah.cons Ef.stays ?_)
 simp only[TK]
 repeat(refine dE (fun wr nr hJ=>by(have qm:=HM1.o.ext hJ.1 (by simp;omega);have qmc:=qm.cell;have qml:=qm.lt;clear qm);clear hJ;exact CL) ?_;simp only[PT])
 refine Ts 15 (by omega) rfl rfl ?_ ?_
 ·apply Exists.intro
  apply Exists.intro
  refine⟨fun wr=>?_,fun wr nr hJ hE=>?_⟩
  ·go_simp
   first|exact⟨rfl,rfl⟩|rfl
  exact⟨_,(by omega),(Ch base g _ 0 14 _ hJ (by omega) (by omega)).mono (Ll.less (Nat.le_refl _) (fun r h=>⟨h.1,fun _=>by omega⟩))⟩
 intro (y1:Int);simp only[PT]
 repeat(refine dE (fun wr nr hJ=>by clear hJ;exact CL) ?_;simp only[PT])
 refine Aa (fun w2 hJ hF=>?_)
 have hy:0<=y1/\y1<15:=by simpa[upd,Ef] using hF 3
 obtain⟨many,rfl⟩:∃k:Nat,y1=k:=⟨y1.toNat,by omega⟩;have hm14:many<=14:=by omega
 have HE2:=hd (HE1.o.trans hJ.1);have HM2:=hd (HM1.o.ext hJ.1 (by simp;omega));have HR2:=hd (HR1.o.ext hJ.1 (by have:=HG.o;simp;omega));have HS2:=hd hJ.2;have hww2:w.heap.size<=w2.heap.size:=HE2.o.size;have hmw2:w1.heap.size<w2.heap.size:=HM2.o.lt;clear hJ hF hy HM1 HR1 HS1;go_wp2_with fail
 refine(Af7 base g (n+800) m0 m1 m2 m3 m4 many hm14 _ (HS2.o.less (by omega))).mono ?_
 rintro e w3 ⟨v,l,rfl,ho,hl,hE3,hS3⟩;have HC3:Hd (Cs w3 (w.heap.size+1) v l.length):=hd ((Cs.of_own ho rfl).mono (by omega));have HE3:=hd (HE2.o.trans hE3);have HM3:=hd (HM2.o.ext hE3 (by simp;omega));have HR3:=hd (HR2.o.ext hE3 (by have:=HG.o;simp;omega));have HS3:=hd hS3;have HL:=hd hl;have hgw3:g<w3.heap.size:=hS3.lt;have hmw3:w1.heap.size<w3.heap.size:=HM3.o.lt;clear ho hl hE3 hS3;go_wp2_with fail
 refine(Cn base g (n+700) w3.heap.size 5 3 [0,0,0,1,2] _ ((HS3.o.less (by omega)).alloc _) (Blk.new _ _ _) (by omega) (by decide)).mono ?_
 rintro e w4 ⟨rp,rfl,hrp,hE4,hS4⟩;have hEE:=((Ext.refl [g] w3).alloc (.cells (Db [0,0,0,1,2]) 3)).trans hE4;have hr2:0<=rp/\rp<=2:=by simp at hrp;omega
 have HST4:Hd (Vw base g n w 0 v w4):=hd ⟨HE3.o.trans hEE,hS4.less (by omega),_,HC3.o.ext hEE (by have:=HG.o;simp;omega),HL.o⟩;have hmw4:w1.heap.size<w4.heap.size:=by have:=hEE.size;omega
 have HM4:=hd (HM3.o.ext hEE (by simp;omega));have HR4:=hd (HR3.o.ext hEE (by have:=HG.o;simp;omega));clear hrp hE4 hS4 hEE;go_wp2_with fail
 go_loopw [5,16] (fun v i wr=>∃k:Nat,i=.int .i64 k/\(k:Int)<=rp/\Hd (Vw base g n w k v wr)/\Hd (Ext [g] w4 wr)) (fun _ i _=>(rp-intOf i).toNat)
 case atStart=>exact⟨0,rfl,by omega,HST4,hd er⟩
 case round=>
  obtain⟨k,rfl,hk,HL4,HE4⟩:=hrel;by_cases hlt:(k:Int)<rp
  ·go_wp2_with fail
   obtain⟨h1,h2,len,h3,h4⟩:=HL4.o;refine(Ys base g (n+(10-(k+1))*20) len (w.heap.size+1) _ _ h3 (by omega) (h2.less (by omega))).mono ?_
   rintro e w5 ⟨v',len',rfl,h5,h6,h7,h8⟩;have HN:Hd (Vw base g n w (k+1) v' w5):=hd ⟨h1.trans h7,h8,_,h5.mono (by have:=HE4.o.size;omega),by omega⟩;have HN2:=hd (HE4.o.trans h7);clear h1 h2 h3 h4 h5 h6 h7 h8;go_wp2_with fail
   go_roundw
   case rel=>exact⟨k+1,by go_num,by omega,HN,HN2⟩
   case measure=>simp[intOf];omega
  ·have HM5:=hd (HM4.o.ext HE4.o (by simp;omega));have HR5:=hd (HR4.o.ext HE4.o (by have:=HG.o;simp;omega));have qm:=HM5.o.cell;have qml:=HM5.o.lt;have qr:=HR5.o.cell;have qrf:=HR5.o.frozen;have qrl:=HR5.o.lt;go_wp2_with fail
   obtain⟨h1,h2,len,h3,h4⟩:=HL4.o
   exact bodyPost_ret (Abb rfl _ _ w.heap.size ⟨m0,m1,m2,m3,m4⟩ _ rfl rfl (Blk.all5 HR5.o _ _ _ _ _)) rfl
    ⟨⟨m0,m1,m2,m3,m4⟩,_,len,rfl,(h3.ext ((Ext.refl [w.heap.size] _).setAt5 (.inl (by simp)) _ _ _ _ _) (by simp)).mono (by omega),by omega,h1.setAt5 (.inr (Nat.le_refl _)) _ _ _ _ _,(h2.less (by omega)).setAt5 (by have:=HG.o;omega) HBW.o _ _ _ _ _⟩
end
end Go.Proofs.YtkgmhggliifkjaaGreat
