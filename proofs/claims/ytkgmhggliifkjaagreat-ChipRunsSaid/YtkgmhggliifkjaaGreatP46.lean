import Derived.Test.YtkgmhggliifkjaaGreatP39
import Derived.Test.YtkgmhggliifkjaaGreatP45
namespace Go.Proofs.YtkgmhggliifkjaaGreat
open Go.RowKit Go.Proofs.Tryz
set_option linter.all false
set_option maxHeartbeats 8000000
set_option maxRecDepth 100000
def Ry (R:RA)(m:Mc)(xs:List Ins)(S:MS)(w w':World):Prop:=∃R',Aj R.A w w'/\Ak w' R' m xs S/\R'.A.c=R.A.c/\∀b,b<w.heap.size->R'.A.kd b=R.A.kd b
section
variable {w w1 w2 wr:World} {R R1:RA} {m:Mc} {xs:List Ins} {S:MS} {A0:Option Addr}
theorem Ry.trans (h1:Aj R.A w w1)(hc:R1.A.c=R.A.c)(hk:∀b,b<w.heap.size->R1.A.kd b=R.A.kd b)(h2:Ry R1 m xs S w1 w2):Ry R m xs S w w2:=by
 obtain⟨R2,a,b,c,d⟩:=h2;exact⟨R2,h1.re a hk,b,c.trans hc,fun x hx=>(d x (nl hx h1.size)).trans (hk x hx)⟩
def Af3 (A0:Option Addr)(xs:List Ins):List Nat:=if xs=[] then [] else(A0.map fun a=>a.block).toList
theorem Aea (hE:Ext [] w w2)(hf:∀b,R.A.kd b<40->w.heap.size<=b\/(xs≠[]/\∃a,A0=some a/\a.block=b))(h:Ry R m xs S w2 wr):Ext (Af3 A0 xs) w wr:=by
 obtain⟨R',⟨T,h1,h2⟩,_⟩:=h;refine hE.nil.step h1 (fun x hx=>?_)
 rcases hf x (h2 x hx) with h|⟨hxs,a,rfl,rfl⟩
 ·exact .inr h
 ·exact .inl (by unfold Af3;rw[ijn hxs];simp)
end
def Ag4 (m:Mc)(xs:List Ins)(main:List Int)(A0:Option Addr)(w:World)(e:Ending)(w':World):Prop:=
 ∃R,e=.returned (.pointer (some R.A.c))/\Ext (Af3 A0 xs) w w'/\Ak w' R m xs (Ew m xs main)
theorem Yp (m:Mc)(A0:Option Addr)(c0:Nat)(xs:List Ins)(B0:Option Addr)(d0:Nat)(main:List Int)(w:World)(h:RdC w A0 xs)(hl:xs.length<=100000)(hm:RdI w B0 main)(hp:Di m xs main=0) :
  Calls prog 12 #[.agg m.cells.toArray,.slice A0 xs.length c0,.slice B0 main.length d0] w (Ag4 m xs main A0 w):=by
 obtain⟨h1,h2,h3⟩:=Ly hp;obtain⟨k1,k2,k3⟩:=Fg h1;have HN:=hd (fun W (hW:Ext [] w W)=>Yj m k1 A0 c0 xs B0 d0 main W (h.ext hW (by simp)) hl (hm.ext hW (by simp)) h2);have HX:=hd (And.intro k1 (And.intro k2 (AtX.start (main:=main) k1 k2 k3 h3)));generalize hQ:Ag4 m xs main A0 w=Q at *;have HQ:=hd hQ;obtain⟨m',hm'⟩:∃m',m'=m:=⟨_,rfl⟩;have HM:=hd hm';obtain⟨m0,m1,m2,m3,m4⟩:=m;show Calls prog 12 #[.agg #[m0,m1,m2,m3,m4],.slice A0 xs.length c0,.slice B0 main.length d0] w _
 have HB:=hd (Blk.new w 27 #[m0,m1,m2,m3,m4]);have HE0:=hd ((Ext.refl [] w).alloc (.cells #[m0,m1,m2,m3,m4] 27));rw[<-HM.o] at HX;clear h hm hQ hm' hp h1 h2 h3 k1 k2 k3;go_enter func12,ntmps12
 go_wp2_with fail
 refine(HN.o _ HE0.o).mono ?_
 rw[<-HM.o];rintro e w2 ⟨R0,rfl,hE,hC,hc0,hf⟩;have HE:=hd (HE0.o.trans hE);have HC:=hd hC;have HF0:Hd (∀b,R0.A.kd b<40->w.heap.size<=b\/(xs≠[]/\∃a,A0=some a/\a.block=b)):=hd (fun b hb=>(hf b hb).imp (fun h=>nt HE0.o.size h) id);clear hE hC hf hc0;go_wp2_with fail
 go_loopg [] 40000001 (fun n wr=>∃S,Hd (Ry R0 m' xs S w2 wr/\AtX m' xs (Ew m' xs main) n S))
 case atStart=>exact⟨_,hd ⟨⟨R0,Aj.refl _ _,HC.o,rfl,fun _ _=>rfl⟩,HX.o.2.2⟩⟩
 case round=>
  obtain⟨S,hS⟩:=hrel;obtain⟨gk',hgk⟩:=hS.o.2.pos HX.o.1 HX.o.2.1;subst hgk;obtain⟨R1,hE1,hC1,hc1,hk1⟩:=hS.o.1;have hcap:=hS.o.2.cap;have hst:=Uj hC1 hS.o.2.ok HX.o.2.1 hS.o.2.cyc (by omega) hl;rw[hc1] at hst;have HST:=hd hst;have HK1:=hd hk1;have HC1:=hd hc1;have HE1:=hd hE1;clear hE1 hC1 hc1 hk1 hst hcap;go_wp2_with fail
  refine HST.o.mono ?_
  rintro e w3 ⟨rfl,R2,hE2,hC2,hc2,hk2⟩;have HG:=hd (show Ry R0 m' xs (Cf m' xs S).2 w2 w3 from Ry.trans HE1.o HC1.o HK1.o ⟨R2,hE2,hC2,hc2,hk2⟩);clear hE2 hC2 hc2 hk2;obtain⟨b,hb⟩:∃b,b=(Cf m' xs S).1:=⟨_,rfl⟩;rw[<-hb];have HBB:=hd hb;clear hb;cases b
  ·go_wp2_with fail
   (try go_ret)
   rw[<-HQ.o,<-HM.o];have hfin:=hS.o.2.off HBB.o.symm;have hg:=HG.o;rw[hfin] at hg;obtain⟨R3,q1,q2,q3,q4⟩:=id hg;exact⟨R3,by rw[q3];rfl,Aea HE.o HF0.o hg,q2⟩
  ·go_wp2_with fail
   go_roundg gk'
   case rel=>exact⟨_,hd ⟨HG.o,hS.o.2.on HX.o.1 HX.o.2.1 HBB.o.symm⟩⟩
   case measure=>omega
end Go.Proofs.YtkgmhggliifkjaaGreat
