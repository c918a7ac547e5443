import Derived.Test.YtkgmhggliifkjaaGreatP41
import Derived.Test.YtkgmhggliifkjaaGreatP42
import Derived.Test.YtkgmhggliifkjaaGreatP43
import Derived.Test.YtkgmhggliifkjaaGreatP44
import Derived.Test.YtkgmhggliifkjaaGreatP22
namespace Go.Proofs.YtkgmhggliifkjaaGreat
open Go.RowKit Go.Proofs.Tryz
set_option linter.all false
set_option maxHeartbeats 8000000
set_option maxRecDepth 100000
attribute [local irreducible] Ax
theorem Aa3 {w:World}{R:RA}{m:Mc}{xs:List Ins}{S:MS}(h:Ak w R m xs S)(hov:(S.over||S.fault.isSome)=true) :
  Calls prog 18 #[.pointer (some R.A.c)] w (Pu R m xs (Cf m xs S) w):=by
 have HS:Hd (Cf m xs S=(false,S)):=hd (by unfold Cf;rw[ijp hov]);have HH:=hd h;have ql:=h.lt;cases ho:S.over
 ·have hf:S.fault.isSome=true:=by rw[ho] at hov;simpa using hov
  have q40:=h.cell (i:=40) (by omega) (v:=.bool false) (by show Value.bool S.over=_;rw[ho])
  have q39:=h.cell (i:=39) (by omega) (v:=.pointer (some R.fb)) (by
   show Value.pointer (match S.fault with|none=>none|some _=>some R.fb)=_
   cases hf':S.fault with
   | none=>rw[hf'] at hf;cases hf
   | some t=>rfl)
  clear h hov ho hf;go_enter func18,ntmps18
  go_wp2_with fail
  go_ret
  rw[HS.o];exact⟨rfl,R,Aj.refl _ _,HH.o,rfl,fun _ _=>rfl⟩
 ·have q40:=h.cell (i:=40) (by omega) (v:=.bool true) (by show Value.bool S.over=_;rw[ho]);clear h hov ho;go_enter func18,ntmps18
  go_wp2_with fail
  go_ret
  rw[HS.o];exact⟨rfl,R,Aj.refl _ _,HH.o,rfl,fun _ _=>rfl⟩
theorem Uj {w:World}{R:RA}{m:Mc}{xs:List Ins}{S:MS}(h:Ak w R m xs S)(hok:OkS m xs S)(hce:Bh m 0 xs=0){c:Int}(hcb:Fi c S)(hcl:c<=500000000000)(hl:xs.length<=100000) :
  Calls prog 18 #[.pointer (some R.A.c)] w (Pu R m xs (Cf m xs S) w):=by
 by_cases hov:(S.over||S.fault.isSome)=true
 ·exact Aa3 h hov
 have hov':(S.over||S.fault.isSome)=false:=by simpa using hov
 rw[Bool.or_eq_false_iff] at hov'
 have hft:S.fault=none:=by
  cases hf:S.fault with
  | none=>rfl
  | some t=>rw[hf] at hov';cases hov'.2
 have hpc:=hok.live hov'.1;obtain⟨x,hx⟩:∃x,xs[S.pc]? = some x:=⟨_,List.getElem?_eq_getElem hpc⟩;have hgd:xs.getD S.pc zI=x:=by rw[List.getD_eq_getElem?_getD,hx];rfl
 have hv:=Er h.kd.ok hce x (ilm hx);have hss:Cf m xs S=Gn m xs S x:=by unfold Cf;rw[ijn hov,hgd]
 rw[hss];obtain⟨xo,xk,xd,xa,xb,xc,xp,xn,xm⟩:=x;have hA:=h.rekd (fun b=>if b<w.heap.size then R.A.kd b else 40) (fun b hb=>ijp hb);have hkf:∀b,w.heap.size<=b->40<=({R with A:={R.A with kd:=fun b=>if b<w.heap.size then R.A.kd b else 40 } }:RA).A.kd b:=fun b hb=>by show 40<=(if b<w.heap.size then R.A.kd b else 40);rw[ijn (by omega)];exact Nat.le_refl _
 have hfin:∀e w',Pu {R with A:={R.A with kd:=fun b=>if b<w.heap.size then R.A.kd b else 40 } } m xs (Gn m xs S ⟨xo,xk,xd,xa,xb,xc,xp,xn,xm⟩) w e w'->Pu R m xs (Gn m xs S ⟨xo,xk,xd,xa,xb,xc,xp,xn,xm⟩) w e w':=by
  rintro e w' ⟨he,R',hE,hC,hc,hk⟩;exact⟨he,R',(Aj.refl R.A w).re hE (fun b hb=>ijp hb),hC,hc,fun b hb=>(hk b hb).trans (ijp hb)⟩
 by_cases h3:xo=3
 ·subst h3
  have hp:xp=0:=by
   have h1:=hv.pp;dsimp only at h1;by_cases h0:xp=0
   ·exact h0
   ·have:=h1 h0;omega
  subst hp;exact(Agv hA hov'.1 hft hl xk xd xa xb xc xn xm hx hv hkf hok hce hcb hcl).mono hfin
 by_cases h4:xo=4
 ·subst h4
  have hp:xp=0:=by
   have h1:=hv.pp;dsimp only at h1;by_cases h0:xp=0
   ·exact h0
   ·have:=h1 h0;omega
  subst hp;exact(Agw hA hov'.1 hft hl xk xd xa xb xc xn xm hx hv hkf hok hce hcb hcl).mono hfin
 by_cases hb:Cr (Br S ⟨xo,xk,xd,xa,xb,xc,xp,xn,xm⟩) ⟨xo,xk,xd,xa,xb,xc,xp,xn,xm⟩=true\/Cg m (Br S ⟨xo,xk,xd,xa,xb,xc,xp,xn,xm⟩) (Ae m (Br S ⟨xo,xk,xd,xa,xb,xc,xp,xn,xm⟩) ⟨xo,xk,xd,xa,xb,xc,xp,xn,xm⟩) (Ab m (Br S ⟨xo,xk,xd,xa,xb,xc,xp,xn,xm⟩) ⟨xo,xk,xd,xa,xb,xc,xp,xn,xm⟩)=0
 ·exact(Af2 hA hov'.1 hft hl xo xk xd xa xb xc xp xn xm hx hv ⟨h3,h4⟩ hb hkf hok hce hcb hcl).mono hfin
 ·exact(Yo hA hov'.1 hft hl xo xk xd xa xb xc xp xn xm hx hv hb hkf hok hce hcb hcl).mono hfin
end Go.Proofs.YtkgmhggliifkjaaGreat
