import Derived.Test.YtfppibmloloakaaGreatDoorI45
import Derived.Test.YtfppibmloloakaaGreatDoorI46
namespace Go.Proofs.YtfppibmloloakaaGreatDoor
open Go.RowKit Go.Proofs.Tryz
set_option linter.all false
set_option maxHeartbeats 64000000
theorem Ajr {H:Nat}{w:World}(hH:H<=w.heap.size):Yc H (.slice none 0 0) [] w:=⟨by simp,H,w.heap.size,jD _,jD _,Ca _ _ _ _,by simp⟩
theorem Agn (H:Nat)(w:World):Mq H (.slice none 0 0) [] w:=⟨by simp,⟨H,jD _,Ca _ _ _ _⟩,fun x hx=>by cases hx⟩
theorem Uk {H:Nat}{v:Value}{O:List InO}{w w':World}(h:Mq H v O w)(hE:Ext [] w w'):Mq H v O w':=by
 obtain⟨h1,⟨B,h2,h3⟩,h4⟩:=h;exact⟨h1,⟨B,h2,Ah h3 hE (by simp)⟩,fun x hx=>(h4 x hx).ext0 hE⟩
set_option maxRecDepth 100000 in
theorem loopInstances_any (A:Option Addr)(len cap:Nat)(w:World)(hlen:len<=9223372036854775807)(hA:0<len->∃b o,A=some ⟨b,o,none⟩/\b<w.heap.size/\∀i,i<len->∃x,w.cell? ⟨b,o+i,none⟩=some (.int .i64 x)) :
  Calls prog 5 #[.slice A len cap] w fun e w'=>e=.returned (.bool true)/\Ext [] w w':=by
 have ak:=hd (Adg (10+1000000000000000) (by decide) A len cap w hlen hA);clear hA;go_enter func5,ntmps5
 go_wp2_with fail
 have HL:=hd (Adh w.heap.size w.heap.size 10 _ ak.o);refine HL.o.mono ?_
 rintro e w3 ⟨p,rfl,hp,hE,hS⟩;have al:Hd (Ext [] w w3):=hd (((jF [] w).alloc (.cells #[.slice A len cap,(0:Int)] 25)).step hE fun x hx=>.inr (by rw[jA.1 hx];exact jD _));have am:=hd (PgA.inn hp (by omega));clear hp hE hS HL ak;have ac:=(jF [] w3).alloc (.cells #[.slice p.A p.bs.length p.cap,.slice p.B p.body.length p.bcap] 29);have an:=hd (al.o.trans ac);have aa:=hd (jK w3 29 #[.slice p.A p.bs.length p.cap,.slice p.B p.body.length p.bcap]);have ao:=hd (am.o.keep ac);unfold pgV;go_upto_region 2 with fail
 clear ac al am;generalize World.alloc w3 _=w4 at *;have ay:=hd (@Abc p);have ap:=hd (@Amz p);have ad:=hd (@Alv p);have az:=hd (@Ajq p);have ab:=hd (fun W (hW:Ext [] w4 W)=>Af9 p W (ao.o.keep hW));have ae:=hd (Nw p w4 ao.o);unfold Amm at ab;unfold Ad5 at ae;unfold pgV at ab ae;generalize aF:Eu p=oe at *;have qp:=aa.o.cell;have af:=aa.o.lt;go_wp2_with fail
 refine ae.o.mono ?_
 rintro e w5 ⟨hE,a8⟩;have a1:=hd hE;have qp:=(aa.o.ext a1.o (by simp)).cell;have af:=(aa.o.ext a1.o (by simp)).lt;have aB:=hE.size;clear hE;rcases a8 with⟨h0,rfl⟩|⟨rfl,OI,vi,rfl,aw,ax⟩
 ·have aC:=hd h0;go_wp2_with fail
  refine(ab.o w5 a1.o).mono ?_
  rintro e w6 ⟨hE,a8⟩;rcases a8 with⟨-,rfl⟩|⟨h1,-⟩
  ·have ag:=hd (a1.o.trans hE);clear hE qp af;have ah:=hd (fun W (hW:Ext [] w6 W)=>Lw 0 (.slice none 0 0) [] W (Ajr (jQ _)) (by simp[wrO]) (jQ _));have a2:=hd (fun W (hW:Ext [] w6 W) v' (hv:Mq 0 v' (wrO []) W)=>Wu 0 0 (.slice none 0 0) v' [] (wrO []) W (Agn 0 W) hv (fun x hx=>by cases hx) (fun x hx=>by simp[wrO] at hx));have ai:Hd (decide (([]:List InO).map InO.key=(wrO []).map InO.key)=true):=hd (by simp[wrO]);rw[ai.o] at a2;have aD:(oe==oe)=true:=by simp
   go_wp2_with fail
   refine(Aac w6).mono ?_
   rintro e w7 ⟨rfl,hE⟩;have a6:=hd hE;clear hE;go_wp2_with fail
   refine(ah.o w7 a6.o).mono ?_
   rintro e w8 ⟨v',rfl,hE,hv⟩;have a7:=hd (a6.o.trans hE);have HV:=hd hv;clear hE hv;go_wp2_with fail
   refine(a2.o w8 a7.o v' HV.o).mono ?_
   rintro e w9 ⟨rfl,hE⟩;have aj:=hd (an.o.trans (ag.o.trans (a7.o.trans hE)));clear hE;go_wp2_with fail
   go_ret
   exact⟨rfl,aj.o⟩
  ·exact absurd h1 h0
 ·have HZ:=hd (ay.o rfl);have aq:=hd aw;have au:=hd ax;clear aw ax;go_wp2_with fail
  refine(ab.o w5 a1.o).mono ?_
  rintro e w6 ⟨hE,a8⟩;have aE:=hE.size;rcases a8 with⟨h1,-⟩|⟨-,O,v,rfl,hO,hA⟩
  ·exact absurd rfl h1
  ·have ag:=hd (a1.o.trans hE);have HO:=hd hO;have HA:=hd hA;have aA:=hd (Uk au.o hE);clear hE hO hA qp af au;have ah:=hd (fun W (hW:Ext [] w6 W)=>Lw w5.heap.size v O W (HA.o.keep hW) (by have:=congrArg List.length (ad.o HO.o);rw[List.length_map] at this;rw[this];exact az.o HZ.o.2) (by have h2:=hW.size;omega));have a2:=hd (fun W (hW:Ext [] w6 W) v' (hv:Mq w5.heap.size v' (wrO O) W)=>Wu w4.heap.size w5.heap.size vi v' OI (wrO O) W (Uk aA.o hW) hv (ap.o HZ.o.1 aq.o) (ap.o HZ.o.1 (ad.o HO.o)));have ai:Hd (decide (OI.map InO.key=(wrO O).map InO.key)=true):=hd (by rw[aq.o,ad.o HO.o];simp);rw[ai.o] at a2;go_wp2_with fail
   refine(Aac w6).mono ?_
   rintro e w7 ⟨rfl,hE⟩;have a6:=hd hE;clear hE;go_wp2_with fail
   refine(ah.o w7 a6.o).mono ?_
   rintro e w8 ⟨v',rfl,hE,hv⟩;have a7:=hd (a6.o.trans hE);have HV:=hd hv;clear hE hv;go_wp2_with fail
   refine(a2.o w8 a7.o v' HV.o).mono ?_
   rintro e w9 ⟨rfl,hE⟩;have aj:=hd (an.o.trans (ag.o.trans (a7.o.trans hE)));clear hE;go_wp2_with fail
   go_ret
   exact⟨rfl,aj.o⟩
end Go.Proofs.YtfppibmloloakaaGreatDoor
