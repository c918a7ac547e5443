import Derived.Test.YtkgmhggliifkjaaGreatP10
namespace Go.Proofs.YtkgmhggliifkjaaGreat
open Go.RowKit Go.Proofs.Tryz
set_option linter.all false
set_option maxHeartbeats 8000000
set_option maxRecDepth 100000
theorem Tj {xs ys:List Int}{n:Nat}(hx:xs.length=n)(hy:ys.length=n)(h:∀j,j<n->xs[j]? = ys[j]?):xs=ys:=by
 apply List.ext_getElem?
 intro i;rcases Nat.lt_or_ge i n with h1|h1
 ·exact h i h1
 ·rw[List.getElem?_eq_none (by omega),List.getElem?_eq_none (by omega)]
theorem Aa8 (A B:Option Addr)(ca cb n:Nat)(xs ys:List Int)(w:World)(hA:RdI w A xs)(hB:RdI w B ys)(hl:n<=9223372036854775807)(hx:xs.length=n)(hy:ys.length=n) :
  Calls prog 13 #[.slice A n ca,.slice B n cb] w fun e w'=>e=.returned (.bool (decide (xs=ys)))/\Ext [] w w':=by
 have HA:=hd hA;have HB:=hd hB;have HLX:=hd hx;have HLY:=hd hy;clear hA hB hx hy;go_enter func13,ntmps13
 go_wp2_with fail
 go_loopw [13] (fun i wr=>∃k:Nat,i=.int .i64 k/\k<=n/\Ext [] w wr/\Hd (∀j,j<k->xs[j]? = ys[j]?)) (fun i _=>(n-intOf i).toNat)
 case atStart=>exact⟨0,rfl,Nat.zero_le _,er,hd fun j hj=>absurd hj (by omega)⟩
 case round=>
  obtain⟨k,rfl,hk,hE,HN⟩:=hrel;have HE:=hd hE;by_cases hlt:k<n
  ·have hx:=List.getElem?_eq_getElem (l:=xs) (i:=k) (by have:=HLX.o;omega);have hy:=List.getElem?_eq_getElem (l:=ys) (i:=k) (by have:=HLY.o;omega);rcases HA.o.ext hE (by simp) with h0|⟨b,o,rfl,hc⟩
   ·have:=HLX.o;simp[h0] at this;omega
   rcases HB.o.ext hE (by simp) with h0|⟨b2,o2,rfl,hc2⟩
   ·have:=HLY.o;simp[h0] at this;omega
   have hcx:=hc k _ hx;have hcy:=hc2 k _ hy;have HX:=hd hx;have HY:=hd hy;generalize xs[k]'_=x at hcx HX;generalize ys[k]'_=y at hcy HY;clear hc hc2 hx hy hE;by_cases hxy:x=y
   ·subst hxy;go_wp2_with fail
    go_quiet (fail)
    go_wp2_with fail
    go_roundw
    case rel=>
     refine⟨k+1,by go_num,by omega,HE.o.drewN _,hd fun j hj=>?_⟩
     rcases Nat.lt_or_ge j k with h1|h1
     ·exact HN.o j h1
     ·have:j=k:=by omega
      rw[this,HX.o,HY.o]
    case measure=>simp[intOf];omega
   ·have hb:(x != y)=true:=by simpa using hxy
    have HV:Hd (xs≠ys):=hd fun e=>by
     have:=HX.o;rw[e,HY.o] at this;exact hxy (Option.some.inj this).symm
    clear hxy;go_wp2_with fail
    go_quiet (fail)
    go_wp2_with fail
    go_ret
    exact⟨Ay (by simpa using HV.o),HE.o.drewN _⟩
  ·clear hE;have HV:Hd (xs=ys):=hd (Tj HLX.o HLY.o (fun j hj=>HN.o j (by omega)));go_wp2_with fail
   go_ret
   exact⟨Ay (by simpa using HV.o),HE.o⟩
end Go.Proofs.YtkgmhggliifkjaaGreat
