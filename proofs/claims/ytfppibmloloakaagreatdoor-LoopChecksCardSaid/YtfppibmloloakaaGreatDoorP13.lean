import Derived.Test.YtfppibmloloakaaGreatDoorP12
import Derived.Deep.DeepCutAuto
import Derived.Deep.CutBlock
namespace Go.Proofs.YtfppibmloloakaaGreatDoor
open Go.RowKit Go.Proofs.Tryz
set_option linter.all false
theorem stArr_get (h:SH)(n:Nat)(x:EH)(m:Nat):(stArr h n x m)[0]? = some (.int .i64 h.k)/\(stArr h n x m)[1]? = some (.string h.var)/\(stArr h n x m)[2]? = some (.int .i64 h.lo)/\(stArr h n x m)[3]? = some (.int .i64 h.hi)/\(stArr h n x m)[4]? = some (.int .i64 h.step)/\(stArr h n x m)[5]? = some (.bool h.vec)/\(stArr h n x m)[6]? = some (.slice h.cA h.conds.length h.cc)/\(stArr h n x m)[7]? = some (.slice h.A n h.cap)/\(stArr h n x m)[8]? = some (.int .i64 h.buf)/\(stArr h n x m)[9]? = some (.int .i64 h.at_.base)/\(stArr h n x m)[10]? = some (.slice h.at_.A h.at_.ts.length h.at_.cap):=
 ⟨rfl,rfl,rfl,rfl,rfl,rfl,rfl,rfl,rfl,rfl,rfl⟩
def stVal (x:EH)(m:Nat):Array Value:=#[.int .i64 x.k,.int .i64 x.op,.int .i64 x.lo,.int .i64 x.hi,.int .i64 x.n,.int .i64 x.m,.int .i64 x.buf,.int .i64 x.at_.base,.slice x.at_.A x.at_.ts.length x.at_.cap,.slice x.A m x.cap]
set_option maxRecDepth 100000 in
theorem headOne_any (h:SH)(n:Nat)(w:World):Calls Tryz.prog 218 #[stHV h n] w fun e w'=>e=.returned (.bool (decide (h.k≠3)))/\Ext [] w w':=by
 obtain⟨a0,-⟩:=stArr_get h n h.val.h h.val.ks.length;unfold stHV;generalize stArr h n h.val.h h.val.ks.length=arr at *;go_enter Tryz.func218,Tryz.ntmps218
 go_wp2_with fail
 go_ret
 exact⟨ret_bool (by by_cases h:h.k=3<;>simp[h]),(Ext.refl _ _).alloc _⟩
set_option maxHeartbeats 4000000 in
set_option maxRecDepth 100000 in
theorem unused_any (h:SH)(n:Nat)(w:World):Calls Tryz.prog 216 #[stHV h n] w fun e w'=>e=.returned (.bool (unusedS h n))/\Ext [] w w':=by
 obtain⟨a0,a1,a2,a3,a4,a5,a6,a7,a8,a9,aa⟩:=stArr_get h n h.val.h h.val.ks.length
 have HW:Hd (∀W,Blk W w.heap.size 43 (stArr h n h.val.h h.val.ks.length)->∀(j:Nat) (v:Value),(stVal h.val.h h.val.ks.length).toList[j]? = some v->W.cell? ⟨w.heap.size,11+j,none⟩=some v):=hd fun W hW j v hv=>by
  rw[hW.cell]
  have:(stArr h n h.val.h h.val.ks.length)[11+j]? = (stVal h.val.h h.val.ks.length)[j]?:=by
   rcases Nat.lt_or_ge j 10 with hj|hj
   ·have:j=0\/j=1\/j=2\/j=3\/j=4\/j=5\/j=6\/j=7\/j=8\/j=9:=by omega
    rcases this with rfl|rfl|rfl|rfl|rfl|rfl|rfl|rfl|rfl|rfl<;>rfl
   ·rw[Array.getElem?_eq_none (by simp[stArr];omega),Array.getElem?_eq_none (by simp[stVal];omega)]
  rw[this];simpa using hv
 have HB:=hd (Blk.new w 43 (stArr h n h.val.h h.val.ks.length));unfold stHV;generalize stArr h n h.val.h h.val.ks.length=arr at *;go_enter Tryz.func216,Tryz.ntmps216
 go_upto_region 1 with fail
 go_cut [3] (fun s wx=>s=.bool (loopF h)/\wx=w.alloc (.cells arr 43))
 case first=>
  go_wp2_with fail
  all_goals
   go_meet
   refine⟨?_,rfl⟩
   simp_all [loopF,eqS]
 case rest=>
  obtain⟨rfl,rfl⟩:=hcut;have HE1:=hd ((Ext.refl [] w).alloc (.cells arr 43));generalize World.alloc w _=w1 at *;generalize w.heap.size=s0 at *;have q1:=HB.o.cell;have ql:=HB.o.lt;go_upto_region 2 with fail
  go_cut [4] (fun s wx=>s=.bool (storeF h)/\Hd (Ext [] w wx)/\Hd (Blk wx s0 43 arr))
  case first=>
   by_cases hb:h.buf=0
   ·have HB0:=hd hb;go_wp2_with fail
    refine(zeroAffine_any _ _ _ _ _).mono ?_
    rintro e w2 ⟨rfl,hE⟩;have HE2:=hd (HE1.o.trans hE);have HB2:=hd (HB.o.ext hE (by simp));clear hE q1 ql;have q2:=HB2.o.cell;have ql:=HB2.o.lt;have HWW:=hd (HW.o w2 HB2.o);generalize hz:(decide (h.at_.base=0)&&decide (h.at_.ts.length=0))=z;have HZ:Hd (zeroA h.at_=z):=hd hz;clear hz;cases z
    ·have HF:Hd (storeF h=true):=hd (by unfold storeF;rw[HZ.o];simp);go_wp2_with fail
     go_meet
     exact⟨by rw[HF.o],HE2,HB2⟩
    ·go_wp2_with (
      refine wpList_load_wideG rfl 41 _ rfl s0 11 rfl (stVal h.val.h h.val.ks.length) HWW.o _ Tryz.underlying41 rfl infoEx ?_)
     refine(zeroExpr_any h.val.h h.val.ks.length _).mono ?_
     rintro e w3 ⟨rfl,hE⟩;have HE3:=hd (HE2.o.trans hE);have HB3:=hd (HB2.o.ext hE (by simp));clear hE q2 ql;have HF:Hd (storeF h = !zeroE h.val.h h.val.ks.length):=hd (by unfold storeF;rw[HZ.o,HB0.o];simp);generalize zeroE h.val.h h.val.ks.length=z at *;cases z
     all_goals
      go_wp2_with fail
      go_meet
      exact⟨by rw[HF.o];rfl,HE3,HB3⟩
   ·have HF:Hd (storeF h=true):=hd (by unfold storeF;simp[hb]);have hb':(h.buf==0)=false:=by simpa using hb
    go_wp2_with fail
    go_meet
    exact⟨by rw[HF.o],HE1,HB⟩
  case rest=>
   obtain⟨rfl,HE2,HB2⟩:=hcut;rename World=>w2
   clear q1 ql HB HE1;have q2:=HB2.o.cell;have ql:=HB2.o.lt;have HU:Hd (∀k m,h.k=k->h.conds.length=m->unusedS h n=if k=1 then decide (0<m)||storeF h else if k=2 then loopF h||storeF h else loopF h||decide (0<m)||decide (0<n)):=hd fun k m hk hm=>by subst hk;subst hm;rfl
   generalize storeF h=sF at *;generalize loopF h=lF at *;generalize hk:h.k=k at *;generalize hm:h.conds.length=m at *;have HV:=hd (HU.o k m rfl rfl);clear HU hk hm;have em:decide (0<(m:Int))=decide (0<m):=decide_eq_decide.2 (by omega);have en:decide (0<(n:Int))=decide (0<n):=decide_eq_decide.2 (by omega);by_cases k1:k=1
   ·subst k1;rw[if_pos rfl] at HV;clear em en;cases sF
    all_goals go_wp2_with fail
    all_goals (go_ret;refine⟨ret_bool ?_,HE2.o⟩;rw[HV.o];first|(simp_all;done)|(simp_all;omega))
   ·rw[if_neg k1] at HV;have k1':(k==1)=false:=by simpa using k1
    by_cases k2:k=2
    ·rw[if_pos k2] at HV;subst k2;cases lF<;>cases sF
     all_goals go_wp2_with fail
     all_goals (go_ret;refine⟨ret_bool ?_,HE2.o⟩;rw[HV.o];first|(simp_all;done)|(simp_all;omega))
    ·rw[if_neg k2] at HV;have k2':(k==2)=false:=by simpa using k2
     clear k1 k2;clear em en;cases lF
     all_goals go_wp2_with fail
     all_goals (go_ret;refine⟨ret_bool ?_,HE2.o⟩;rw[HV.o];first|(simp_all;done)|(simp_all;omega))
end Go.Proofs.YtfppibmloloakaaGreatDoor
