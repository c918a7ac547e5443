import Derived.Test.YtfppibmloloakaaGreatDoorK17
import Derived.Test.YtfppibmloloakaaGreatDoorK18
namespace Go.Proofs.YtfppibmloloakaaGreatDoor
open Go.RowKit Go.Proofs.Tryz
set_option linter.all false
set_option maxHeartbeats 64000000
set_option maxRecDepth 100000 in
theorem Aa7 (h:EH)(n:Nat)(w:World):Calls prog 123 #[Gt h n] w fun e w'=>e=.returned (.bool (Lb h n))/\Ext [] w w':=by
 have HZ:Hd (Lb h n=(decide (h.k=0)&&decide (h.op=0)&&decide (h.lo=0)&&decide (h.hi=0)&&decide (h.n=0)&&decide (h.m=0)&&decide (h.buf=0)&&El h.at_&&decide (n=0))):=hd rfl;generalize Lb h n=z at *;obtain⟨x0,x1,x2,x3,x4,x5,x6,⟨y0,y1,y2,y3⟩,x8,x9⟩:=h;simp only[El] at HZ;dsimp only[Gt];have a1:=hd ((jF [] w).alloc (.cells #[x0,x1,x2,x3,x4,x5,x6,y0,.slice y1 y3.length y2,.slice x8 n x9] 41));have a2:=hd (jK w 41 #[x0,x1,x2,x3,x4,x5,x6,y0,.slice y1 y3.length y2,.slice x8 n x9]);by_cases h0:x0=0
 ·subst h0;go_enter func123,ntmps123
  go_wp2_with fail
  generalize World.alloc w _=w1 at *;generalize w.heap.size=s at *;refine(Sg _ _ _ _ _ _ _ _ _ _ _ _ _ _).mono ?_
  rintro e w2 ⟨rfl,hE⟩;have a6:=hd (a1.o.trans hE);have q:=(a2.o.ext hE (by simp)).cell;have ql:=(a2.o.ext hE (by simp)).lt;clear hE;cases hf:(decide (x1=0)&&decide (x2=0)&&decide (x3=0)&&decide (x5=0)&&decide (x6=0)&&(decide (y0=0)&&decide (y3.length=0))&&decide ((n:Int)=0))
  ·have HF:=hd hf;clear hf;go_wp2_with fail
   go_ret
   refine⟨Aa ?_,a6.o⟩
   rw[HZ.o];have:=HF.o;simp at this⊢;intro a b c d e f g;simp_all
  ·have HF:=hd hf;clear hf;go_wp2_with fail
   go_ret
   refine⟨Aa ?_,a6.o⟩
   rw[HZ.o];have:=HF.o;simp at this⊢;by_cases h4:x4=0<;>simp_all
 ·have e0:(x0==0)=false:=by simpa using h0
  have H0:=hd h0;clear h0;go_enter func123,ntmps123
  go_wp2_with fail
  go_ret
  exact⟨Aa (by rw[HZ.o];simp[H0.o]),a1.o⟩
set_option maxRecDepth 100000 in
theorem Wx (h:SH)(n:Nat)(w:World):Calls prog 81 #[Ez h n] w fun e w'=>e=.returned (.bool (!Ga h n))/\Ext [] w w':=by
 obtain⟨a0,a1,a2,a3,a4,a5,a6,a7,a8,a9,aa⟩:=Cf h n h.val.h h.val.ks.length
 have HW:Hd (∀W,Blk W w.heap.size 43 (Ai h n h.val.h h.val.ks.length)->∀(j:Nat) (v:Value),(Ke h.val.h h.val.ks.length).toList[j]? = some v->W.cell? ⟨w.heap.size,11+j,none⟩=some v):=hd fun W hW j v hv=>by
  rw[hW.cell]
  have:(Ai h n h.val.h h.val.ks.length)[11+j]? = (Ke h.val.h h.val.ks.length)[j]?:=by
   rcases Nat.lt_or_ge j 10 with hj|hj
   ·have:j=0\/j=1\/j=2\/j=3\/j=4\/j=5\/j=6\/j=7\/j=8\/j=9:=by omega
    rcases this with rfl|rfl|rfl|rfl|rfl|rfl|rfl|rfl|rfl|rfl<;>rfl
   ·rw[Array.getElem?_eq_none (by simp[Ai];omega),Array.getElem?_eq_none (by simp[Ke];omega)]
  rw[this];simpa using hv
 have HB:=hd (jK w 43 (Ai h n h.val.h h.val.ks.length));unfold Ez;generalize Ai h n h.val.h h.val.ks.length=arr at *;go_enter func81,ntmps81
 go_upto_region 1 with fail
 go_cut [3] (fun s wx=>s=.bool (!Gr h)/\wx=w.alloc (.cells arr 43))
 case first=>
  go_wp2_with fail
  all_goals
   go_meet
   refine⟨?_,rfl⟩
   have ak:∀b:Bool,(!b) = !b:=fun _=>rfl
   simp_all [Gr,eqS]
 case rest=>
  obtain⟨rfl,rfl⟩:=hcut;have ad:=hd ((jF [] w).alloc (.cells arr 43));generalize World.alloc w _=w1 at *;generalize w.heap.size=s0 at *;have q1:=HB.o.cell;have ql:=HB.o.lt;go_upto_region 2 with fail
  go_cut [4] (fun s wx=>s=.bool (!Di h)/\Hd (Ext [] w wx)/\Hd (Blk wx s0 43 arr))
  case first=>
   by_cases hb:h.buf=0
   ·have ag:=hd hb;go_wp2_with fail
    refine(Cg _ _ _ _ _).mono ?_
    rintro e w2 ⟨rfl,hE⟩;have ac:=hd (ad.o.trans hE);have ab:=hd (HB.o.ext hE (by simp));clear hE q1 ql;have q2:=ab.o.cell;have ql:=ab.o.lt;have ah:=hd (HW.o w2 ab.o);generalize hz:(decide (h.at_.base=0)&&decide (h.at_.ts.length=0))=z;have HZ:Hd (El h.at_=z):=hd hz;clear hz;cases z
    ·have HF:Hd (Di h=true):=hd (by unfold Di;rw[HZ.o];simp);go_wp2_with fail
     go_meet
     exact⟨by rw[HF.o];rfl,ac,ab⟩
    ·go_wp2_with (
      refine Gd rfl 41 _ rfl s0 11 rfl (Ke h.val.h h.val.ks.length) ah.o _ underlying41 rfl Ch ?_)
     refine(Aa7 h.val.h h.val.ks.length _).mono ?_
     rintro e w3 ⟨rfl,hE⟩;have ai:=hd (ac.o.trans hE);have aj:=hd (ab.o.ext hE (by simp));clear hE q2 ql;have HF:Hd (Di h = !Lb h.val.h h.val.ks.length):=hd (by unfold Di;rw[HZ.o,ag.o];simp);generalize Lb h.val.h h.val.ks.length=z at *;cases z
     all_goals
      go_wp2_with fail
      go_meet
      exact⟨by rw[HF.o];rfl,ai,aj⟩
   ·have HF:Hd (Di h=true):=hd (by unfold Di;simp[hb]);have hb':(h.buf==0)=false:=by simpa using hb
    go_wp2_with fail
    go_meet
    exact⟨by rw[HF.o];rfl,ad,HB⟩
  case rest=>
   obtain⟨rfl,ac,ab⟩:=hcut;rename World=>w2
   clear q1 ql HB ad;have q2:=ab.o.cell;have ql:=ab.o.lt;have HU:Hd (∀k m,h.k=k->h.conds.length=m->Ga h n=if k=1 then decide (0<m)||Di h else if k=2 then Gr h||Di h else Gr h||decide (0<m)||decide (0<n)):=hd fun k m hk hm=>by subst hk;subst hm;rfl
   generalize Di h=sF at *;generalize Gr h=lF at *;generalize hk:h.k=k at *;generalize hm:h.conds.length=m at *;have HV:=hd (HU.o k m rfl rfl);clear HU hk hm;have EM:Hd (((m:Int)==0) = !decide (0<m)):=hd (by rw[Bool.eq_iff_iff];simp<;>omega);have EN:Hd (((n:Int)==0) = !decide (0<n)):=hd (by rw[Bool.eq_iff_iff];simp<;>omega);have em:decide (0<(m:Int))=decide (0<m):=decide_eq_decide.2 (by omega);have en:decide (0<(n:Int))=decide (0<n):=decide_eq_decide.2 (by omega);by_cases k1:k=1
   ·subst k1;rw[ijp rfl] at HV;clear em en;cases sF
    all_goals go_wp2_with fail
    all_goals (go_ret;refine⟨Aa ?_,ac.o⟩;rw[HV.o];have ae:=EM.o;have af:=EN.o;clear EM EN HV;first|(simp_all;done)|(simp_all;omega)|(cases lF<;>simp_all;done)|(cases lF<;>simp_all<;>omega))
   ·rw[ijn k1] at HV;have k1':(k==1)=false:=by simpa using k1
    by_cases k2:k=2
    ·rw[ijp k2] at HV;subst k2;cases lF<;>cases sF
     all_goals go_wp2_with fail
     all_goals (go_ret;refine⟨Aa ?_,ac.o⟩;rw[HV.o];have ae:=EM.o;have af:=EN.o;clear EM EN HV;first|(simp_all;done)|(simp_all;omega)|(cases lF<;>simp_all;done)|(cases lF<;>simp_all<;>omega))
    ·rw[ijn k2] at HV;have k2':(k==2)=false:=by simpa using k2
     clear k1 k2;clear em en;cases lF
     all_goals go_wp2_with fail
     all_goals (go_ret;refine⟨Aa ?_,ac.o⟩;rw[HV.o];have ae:=EM.o;have af:=EN.o;clear EM EN HV;first|(simp_all;done)|(simp_all;omega)|(cases lF<;>simp_all;done)|(cases lF<;>simp_all<;>omega))
end Go.Proofs.YtfppibmloloakaaGreatDoor
