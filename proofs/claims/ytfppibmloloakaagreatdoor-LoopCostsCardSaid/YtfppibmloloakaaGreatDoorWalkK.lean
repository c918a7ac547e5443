import Derived.Test.YtfppibmloloakaaGreatDoorK26
import Derived.Test.YtfppibmloloakaaGreatDoorK46
namespace Go.Proofs.YtfppibmloloakaaGreatDoor
open Go.RowKit Go.Proofs.Tryz
set_option linter.all false
set_option maxHeartbeats 64000000
set_option maxRecDepth 100000 in
theorem Xn (p:Pg)(ln:Nat)(w:World)(hP:Lz w p)(hF:Jg p.bs p.body)(hrun:Av [] p.body<=2500000)(h1:1<=ln)(h2:ln<=16) :
  Calls prog 24 #[pgV p,ln] w fun e w'=>e=.returned (.int .i64 (Ca ln [] p.body:Nat))/\Ext [] w w':=by
 have a1:=hd (fun s (hs:s∈p.body)=>Lj.of (hP.stmt s hs));have HP:=hd hP;have a2:=hd hF;clear hP hF;obtain⟨A,cap,bs,B,bcap,body⟩:=p;have HB:=hd HP.o.body;have ad:=hd HP.o.stmt;have a6:=hd a2.o.fd;have ag:=Qw (env:=[]) ln bs.length h1 a6.o a1.o;clear HP a2;unfold pgV;dsimp only at *;go_enter func24,ntmps24
 go_upto_region 1 with fail
 have a7:=hd ((jF [] w).alloc (.cells #[.slice A bs.length cap,.slice B body.length bcap] 29));have a8:=hd (jK w 29 #[.slice A bs.length cap,.slice B body.length bcap]);generalize World.alloc w _=w1 at *;generalize w.heap.size=s0 at *;have aa:=a7.o.size;have ab:=hd (a7.o.alloc (.map #[] 0));have ae:=hd (Bw.made w1);have ac:=hd (Ag0 body bs.length w1.heap.size ln [] [] B bcap w (w1.alloc (.map #[] 0)) (.inl ⟨by simp,by simp,rfl,by simp⟩) HB.o ad.o a6.o a1.o aa ab.o ae.o h1 h2 hrun);have ah:=@run_makeMap prog;have qp:=a8.o.cell;have ai:=a8.o.lt;go_wp2_with fail
 refine ac.o.mono ?_
 rintro e w3 ⟨rfl,hE,-⟩;have af:Hd (Ext [] w w3):=hd (ab.o.step hE fun x hx=>.inr (by rw[jA.1 hx];exact aa));clear hE ac;go_wp2_with fail
 go_ret
 exact⟨rfl,af.o⟩
set_option maxRecDepth 100000 in
theorem loopCosts_any (A:Option Addr)(len cap:Nat)(w:World)(hlen:len<=9223372036854775807)(hA:0<len->∃b o,A=some ⟨b,o,none⟩/\b<w.heap.size/\∀i,i<len->∃x,w.cell? ⟨b,o+i,none⟩=some (.int .i64 x)) :
  Calls prog 6 #[.slice A len cap] w fun e w'=>e=.returned (.bool true)/\Ext [] w w':=by
 have al:=hd (Acb (11+1000000000000000) (by decide) A len cap w hlen hA);clear hA;go_enter func6,ntmps6
 go_wp2_with fail
 have HL:=hd (Acc w.heap.size w.heap.size 11 _ al.o);refine HL.o.mono ?_
 rintro e w2 ⟨p,rfl,hp,hE,hS⟩;have am:Hd (Ext [] w w2):=hd (((jF [] w).alloc (.cells #[.slice A len cap,(0:Int)] 25)).step hE fun x hx=>.inr (by rw[jA.1 hx];exact jD _));have an:=hd hp;have ao:=hd hS;clear hp hE hS HL al;unfold pgV;go_wp2_with fail
 refine(Ce w.heap.size w.heap.size 10 0 17 w2 ao.o (by omega) (by omega)).mono ?_
 rintro e w3 ⟨r,rfl,hr,hE,-⟩;have ap:Hd (Ext [] w w3):=hd (am.o.step hE fun x hx=>.inr (by rw[jA.1 hx];exact jD _));have aq:=hd (PgA.inn (an.o.ext hE fun x hx hh=>by rw[jA.1 hx,Ag] at hh;omega) (by omega));have aD:0<=r/\r<=17:=by omega
 clear hE hr am an ao;have ag:=(jF [] w3).alloc (.cells #[.slice p.A p.bs.length p.cap,.slice p.B p.body.length p.bcap] 29);have ae:=hd (ap.o.trans ag);have ah:=hd (jK w3 29 #[.slice p.A p.bs.length p.cap,.slice p.B p.body.length p.bcap]);have ai:=hd (aq.o.keep ag);go_upto_region 3 with fail
 clear ag ap aq;generalize World.alloc w3 _=w4 at *;have au:=hd (@Su p.bs p.body);have a7:Hd (Px p r=if Cd p.bs p.body≠0 then Cd p.bs p.body else if r<1\/16<r then 9 else 0):=hd rfl;have a8:Hd (Za p r=if Px p r=0 then Ca r.toNat [] p.body else 0):=hd rfl;have aw:=hd (fun W (hW:Ext [] w4 W)=>Agx p r W (ai.o.keep hW) (by omega));have ax:=hd (fun W (hW:Ext [] w4 W)=>Md p W (ai.o.keep hW));have af:=hd (fun W (hW:Ext [] w4 W)=>Xn p r.toNat W (ai.o.keep hW));unfold My pgV at ax;unfold pgV at aw af;generalize aC:Cd p.bs p.body=ce at *;generalize Px p r=E at *;generalize Za p r=V at *;generalize w3.heap.size=sp at *;have ab:Hd (∀wr,Ext [] w4 wr->Blk wr sp 29 #[.slice p.A p.bs.length p.cap,.slice p.B p.body.length p.bcap]):=hd fun wr hE=>ah.o.ext hE (by simp)
 have qp:=ah.o.cell;have aa:=ah.o.lt;go_wp2_with fail
 refine(aw.o w4 (jF _ _)).mono ?_
 rintro e w5 ⟨rfl,hE⟩;have ad:=hd hE;clear hE qp aa;have qp:=(ab.o w5 ad.o).cell;have aa:=(ab.o w5 ad.o).lt;go_wp2_with fail
 refine(ax.o w5 ad.o).mono ?_
 rintro e w6 ⟨rfl,hE⟩;have ac:=hd (ad.o.trans hE);clear hE qp aa ad;have qp:=(ab.o w6 ac.o).cell;have aa:=(ab.o w6 ac.o).lt;by_cases h0:ce=0
 ·have hq:(ce==0)=true:=by simpa using h0
  by_cases aj:r<1
  ·have a1:E=9:=by rw[a7.o,ijn (by simp[h0]),ijp (.inl aj)]
   have a6:V=0:=by rw[a8.o,ijn (by rw[a1];decide)]
   have ay:decide (r<1)=true:=decide_eq_true aj;clear a7 a8;subst a1;subst a6;go_wp2_with fail
   refine(On w6).mono ?_
   rintro e w7 ⟨rfl,hE⟩;have a2:=hd (ae.o.trans (ac.o.trans hE));clear hE;go_wp2_with fail
   go_ret
   exact⟨rfl,a2.o⟩
  ·have ay:decide (r<1)=false:=decide_eq_false aj;by_cases ak:16<r
   ·have a1:E=9:=by rw[a7.o,ijn (by simp[h0]),ijp (.inr ak)]
    have a6:V=0:=by rw[a8.o,ijn (by rw[a1];decide)]
    have az:decide (16<r)=true:=decide_eq_true ak;clear a7 a8;subst a1;subst a6;go_wp2_with fail
    refine(On w6).mono ?_
    rintro e w7 ⟨rfl,hE⟩;have a2:=hd (ae.o.trans (ac.o.trans hE));clear hE;go_wp2_with fail
    go_ret
    exact⟨rfl,a2.o⟩
   ·have az:decide (16<r)=false:=decide_eq_false ak;have a1:E=0:=by rw[a7.o,ijn (by simp[h0]),ijn (by omega)]
    have a6:V=Ca r.toNat [] p.body:=by rw[a8.o,ijp a1]
    have hh:=au.o h0;obtain⟨ln,rfl⟩:∃ln:Nat,r=ln:=⟨r.toNat,by omega⟩;rw[Int.toNat_natCast] at a6 af;have HL:=hd (fun W (hW:Ext [] w4 W)=>af.o W hW hh.1 hh.2 (by omega) (by omega));rw[<-a6] at HL;have aA:((V:Int)==(V:Int))=true:=by simp
    clear a7 a8 af au hh a6 aC;subst a1;subst h0;go_wp2_with fail
    refine(On w6).mono ?_
    rintro e w7 ⟨rfl,hE⟩;have a2:=hd (ac.o.trans hE);clear hE qp aa;have qp:=(ab.o w7 a2.o).cell;have aa:=(ab.o w7 a2.o).lt;go_wp2_with fail
    refine(HL.o w7 a2.o).mono ?_
    rintro e w8 ⟨rfl,hE⟩;have aB:=hd (ae.o.trans (a2.o.trans hE));clear hE qp aa;go_wp2_with fail
    go_ret
    exact⟨rfl,aB.o⟩
 ·have hq:(ce==0)=false:=by simpa using h0
  have a1:E=ce:=by rw[a7.o,ijp h0]
  have a6:V=0:=by rw[a8.o,ijn (by rw[a1];exact h0)]
  have aA:(ce==ce)=true:=by simp
  clear a7 a8;subst a6;subst a1;go_wp2_with fail
  refine(On w6).mono ?_
  rintro e w7 ⟨rfl,hE⟩;have a2:=hd (ae.o.trans (ac.o.trans hE));clear hE;go_wp2_with fail
  go_ret
  exact⟨rfl,a2.o⟩
end Go.Proofs.YtfppibmloloakaaGreatDoor
