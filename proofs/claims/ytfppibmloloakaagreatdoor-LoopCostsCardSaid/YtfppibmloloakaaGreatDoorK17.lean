import Derived.Test.YtfppibmloloakaaGreatDoorK13
import Derived.Lib.MinMax
namespace Go.Proofs.YtfppibmloloakaaGreatDoor
open Go.RowKit Go.Proofs.Tryz
set_option linter.all false
set_option maxHeartbeats 64000000
mutual
theorem Sh:∀e:Ex,Lh e<=Al e
 | .mk h ks=>by simp only[Lh,Al];have:=Mb ks;omega
theorem Mb:∀l:List Ex,En l<=Ap l
 | []=>by simp[En,Ap]
 | e :: r=>by simp only[En,Ap];have:=Sh e;have:=Mb r;omega
end
set_option maxRecDepth 100000 in
theorem Aa5:∀(e:Ex) (w:World),Gu w e->Al e<=1000000->
  Calls prog 128 #[exV e] w fun r w'=>r=.returned (.tuple #[(Al e:Int),(Lh e:Int)])/\Ext [] w w':=by
 refine Gs fun h ks ih=>?_
 intro w hX hp;have HI:=hd ih;have HX:=hd hX;have HR:=hd hX.row;have am:ks.length<=1000000:=hX.row.1;have a2:Hd (Al (.mk h ks)=1+Ap ks/\Lh (.mk h ks)=En ks+1):=hd ⟨by rw[Al],by rw[Lh]⟩;have an:Ap ks<=1000000:=by rw[a2.o.1] at hp;omega
 clear ih hX;show Calls _ _ #[Gt h ks.length] _ _
 generalize Al (.mk h ks)=P at *;generalize Lh (.mk h ks)=D at *;generalize hn:ks.length=n at *;have HN:=hd hn;clear hn;have ac:=hd ((jF [] w).alloc (.cells (Dd h n) 41));have ao:=hd (jK w 41 (Dd h n));obtain⟨x0,x1,x2,x3,x4,x5,x6,⟨y0,y1,y2,y3⟩,x8,x9⟩:=h;dsimp only[Gt,Dd] at *;go_enter func128,ntmps128
 go_wp2_with fail
 generalize World.alloc w _=w1 at *;go_loopw [2,3,11] (fun a b i wr=>∃k:Nat,i=.int .i64 k/\a=.int .i64 (1+Ap (ks.take k):Nat)/\b=.int .i64 (En (ks.take k):Nat)/\k<=n/\Hd (Ext [] w wr)) (fun _ _ i _=>(n-intOf i).toNat)
 case atStart=>exact⟨0,rfl,by simp[Ap],by simp[En],jQ _,ac⟩
 case round=>
  obtain⟨k,rfl,rfl,rfl,hk,HE⟩:=hrel;rename World=>wq
  have ap:Ap (ks.take k)<=Ap ks:=Gw;have ad:=Mb (ks.take k);by_cases ay:k<n
  ·obtain⟨b,x,rfl,hx,hc⟩:=(HR.o.keep HE.o).at (i:=k) (by have:=HN.o;omega);have aq:=hd hx;have a1:=ilm hx;have aa:=hd (Dl hx);have ae:=hd (Rj hx);have af:Ap (ks.take (k+1))<=Ap ks:=Gw;have au:=Sh x;have aw:Ap (ks.take k)+Al x<=1000000:=by have:=aa.o;omega
   have ab:=hd (HE.o.alloc (.cells (An x) 41));have a6:=hd (HI.o x a1 (wq.alloc (.cells (An x) 41)) ((HX.o.kid a1).keep ab.o) (by omega));have HW:=hd (fun j v hv=>hc j v (by rw[Ey];exact hv):∀(j:Nat) (v:Value),(An x).toList[j]? = some v->wq.cell? ⟨b,k*10+j,none⟩=some v);have ag:=hd (jK wq 41 (An x)).wide;rw[Cq] at a6;clear hx hc a1;generalize ak:Al x=px at *;generalize al:Lh x=dx at *;generalize a7:Ap (ks.take k)=pk at *;generalize a8:En (ks.take k)=dk at *;clear ak al a7 a8;have ax:max (dk:Int) (dx:Int)=((max dk dx:Nat):Int):=by omega
   generalize hm:max dk dx=mx at *;clear hm
   go_wp2_with (first
    | refine Ac rfl 41 _ rfl b (k*10) rfl (An x) HW.o _ underlying41 rfl Ch ?_
    | refine Ax rfl rfl 41 _ _ rfl rfl zEx (Kj _) (An x) rfl rfl Ch rfl (Fu x) ?_
    | refine Ac rfl 41 _ rfl wq.heap.size 0 rfl (An x) ag.o _ underlying41 rfl Ch ?_)
   refine a6.o.mono ?_
   rintro r w' ⟨rfl,hE⟩;have ah:=hd (ab.o.trans hE);clear hE a6;go_wp2_with fail
   go_roundw
   case rel=>
    refine⟨k+1,by go_num,?_,by rw[ae.o],by omega,ah⟩
    rw[aa.o];congr 1
    omega
   case measure=>simp[intOf];omega
  ·have ai:k=n:=by omega
   subst ai;have aj:ks.take k=ks:=List.take_of_length_le (by rw[HN.o];exact jD _);rw[aj] at ad⊢;generalize Ap ks=pl at *;generalize En ks=dl at *;go_wp2_with fail
   go_ret2
   exact⟨by rw[a2.o.1,a2.o.2];rfl,HE.o⟩
end Go.Proofs.YtfppibmloloakaaGreatDoor
