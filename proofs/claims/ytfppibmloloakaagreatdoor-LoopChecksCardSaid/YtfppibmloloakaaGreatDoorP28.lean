import Derived.Test.YtfppibmloloakaaGreatDoorP27
import Derived.Lib.MinMax
namespace Go.Proofs.YtfppibmloloakaaGreatDoor
open Go.RowKit Go.Proofs.Tryz
set_option linter.all false
mutual
theorem deep_parts:∀e:Ex,deep e<=parts e
 | .mk h ks=>by simp only[deep,parts];have:=deep_partsL ks;omega
theorem deep_partsL:∀l:List Ex,deepL l<=partsL l
 | []=>by simp[deepL,partsL]
 | e :: r=>by simp only[deepL,partsL];have:=deep_parts e;have:=deep_partsL r;omega
end
set_option maxHeartbeats 8000000 in
set_option maxRecDepth 100000 in
theorem extent_any:∀(e:Ex) (w:World),ExIn w e->parts e<=1000000->
  Calls Tryz.prog 128 #[exV e] w fun r w'=>r=.returned (.tuple #[.int .i64 (parts e),.int .i64 (deep e)])/\Ext [] w w':=by
 refine ex_ind fun h ks ih=>?_
 intro w hX hp;have HI:=hd ih;have HX:=hd hX;have HR:=hd hX.row;have hn9:ks.length<=1000000:=hX.row.1;have HPE:Hd (parts (.mk h ks)=1+partsL ks/\deep (.mk h ks)=deepL ks+1):=hd ⟨by rw[parts],by rw[deep]⟩;have hpl:partsL ks<=1000000:=by rw[HPE.o.1] at hp;omega
 clear ih hX;show Calls _ _ #[exHV h ks.length] _ _
 generalize parts (.mk h ks)=P at *;generalize deep (.mk h ks)=D at *;generalize hn:ks.length=n at *;have HN:=hd hn;clear hn;have HE0:=hd ((Ext.refl [] w).alloc (.cells (exHA h n) 41));have HB0:=hd (Blk.new w 41 (exHA h n));obtain⟨x0,x1,x2,x3,x4,x5,x6,⟨y0,y1,y2,y3⟩,x8,x9⟩:=h;dsimp only[exHV,exHA] at *;go_enter Tryz.func128,Tryz.ntmps128
 go_wp2_with fail
 generalize World.alloc w _=w1 at *;go_loopw [2,3,11] (fun a b i wr=>∃k:Nat,i=.int .i64 k/\a=.int .i64 (1+partsL (ks.take k):Nat)/\b=.int .i64 (deepL (ks.take k):Nat)/\k<=n/\Hd (Ext [] w wr)) (fun _ _ i _=>(n-intOf i).toNat)
 case atStart=>exact⟨0,rfl,by simp[partsL],by simp[deepL],Nat.zero_le _,HE0⟩
 case round=>
  obtain⟨k,rfl,rfl,rfl,hk,HE⟩:=hrel;rename World=>wq
  have hpk:partsL (ks.take k)<=partsL ks:=partsL_le;have hdk:=deep_partsL (ks.take k);by_cases hlt:k<n
  ·obtain⟨b,x,rfl,hx,hc⟩:=(HR.o.keep HE.o).at (i:=k) (by have:=HN.o;omega);have HXK:=hd hx;have hmem:=List.mem_of_getElem? hx;have HPT:=hd (partsL_take hx);have HDT:=hd (deepL_take hx);have hpk1:partsL (ks.take (k+1))<=partsL ks:=partsL_le;have hdx:=deep_parts x;have hpx:partsL (ks.take k)+parts x<=1000000:=by have:=HPT.o;omega
   have HEx:=hd (HE.o.alloc (.cells (exArr x) 41));have HCC:=hd (HI.o x hmem (wq.alloc (.cells (exArr x) 41)) ((HX.o.kid hmem).keep HEx.o) (by omega));have HW:=hd (fun j v hv=>hc j v (by rw[exC_arr];exact hv):∀(j:Nat) (v:Value),(exArr x).toList[j]? = some v->wq.cell? ⟨b,k*10+j,none⟩=some v);have HW2:=hd (Blk.new wq 41 (exArr x)).wide;rw[exV_arr] at HCC;clear hx hc hmem;generalize hpp:parts x=px at *;generalize hdd:deep x=dx at *;generalize hpp1:partsL (ks.take k)=pk at *;generalize hdd1:deepL (ks.take k)=dk at *;clear hpp hdd hpp1 hdd1;have hmx:max (dk:Int) (dx:Int)=((max dk dx:Nat):Int):=by omega
   generalize hm:max dk dx=mx at *;clear hm
   go_wp2_with (first
    | refine wpList_load_wide rfl 41 _ rfl b (k*10) rfl (exArr x) HW.o _ Tryz.underlying41 rfl infoEx ?_
    | refine wpList_make_wide rfl rfl 41 _ _ rfl rfl zEx (zEx_run _) (exArr x) rfl rfl infoEx rfl (exArr_one x) ?_
    | refine wpList_load_wide rfl 41 _ rfl wq.heap.size 0 rfl (exArr x) HW2.o _ Tryz.underlying41 rfl infoEx ?_)
   refine HCC.o.mono ?_
   rintro r w' ⟨rfl,hE⟩;have HE3:=hd (HEx.o.trans hE);clear hE HCC;go_wp2_with fail
   go_roundw
   case rel=>
    refine⟨k+1,by go_num,?_,by rw[HDT.o],by omega,HE3⟩
    rw[HPT.o];congr 1
    omega
   case measure=>simp[intOf];omega
  ·have hkn:k=n:=by omega
   subst hkn;have htk:ks.take k=ks:=List.take_of_length_le (by rw[HN.o];exact Nat.le_refl _);rw[htk] at hdk⊢;generalize partsL ks=pl at *;generalize deepL ks=dl at *;go_wp2_with fail
   go_ret2
   exact⟨by rw[HPE.o.1,HPE.o.2];rfl,HE.o⟩
end Go.Proofs.YtfppibmloloakaaGreatDoor
