import Derived.Test.YtfppibmloloakaaGreatDoorP28
import Derived.Test.YtfppibmloloakaaGreatDoorP29
import Derived.Test.YtfppibmloloakaaGreatDoorP13
namespace Go.Proofs.YtfppibmloloakaaGreatDoor
open Go.RowKit Go.Proofs.Tryz
set_option linter.all false
set_option maxHeartbeats 8000000 in
set_option maxRecDepth 100000 in
theorem noExpr_any (h:EH)(n:Nat)(w:World):Calls Tryz.prog 123 #[exHV h n] w fun e w'=>e=.returned (.bool (zeroE h n))/\Ext [] w w':=by
 have HZ:Hd (zeroE h n=(decide (h.k=0)&&decide (h.op=0)&&decide (h.lo=0)&&decide (h.hi=0)&&decide (h.n=0)&&decide (h.m=0)&&decide (h.buf=0)&&zeroA h.at_&&decide (n=0))):=hd rfl;generalize zeroE h n=z at *;obtain⟨x0,x1,x2,x3,x4,x5,x6,⟨y0,y1,y2,y3⟩,x8,x9⟩:=h;simp only[zeroA] at HZ;dsimp only[exHV];have HE0:=hd ((Ext.refl [] w).alloc (.cells #[.int .i64 x0,.int .i64 x1,.int .i64 x2,.int .i64 x3,.int .i64 x4,.int .i64 x5,.int .i64 x6,.int .i64 y0,.slice y1 y3.length y2,.slice x8 n x9] 41));have HB0:=hd (Blk.new w 41 #[.int .i64 x0,.int .i64 x1,.int .i64 x2,.int .i64 x3,.int .i64 x4,.int .i64 x5,.int .i64 x6,.int .i64 y0,.slice y1 y3.length y2,.slice x8 n x9]);by_cases h0:x0=0
 ·subst h0;go_enter Tryz.func123,Tryz.ntmps123
  go_wp2_with fail
  generalize World.alloc w _=w1 at *;generalize w.heap.size=s at *;refine(exprForm_1 _ _ _ _ _ _ _ _ _ _ _ _ _ _).mono ?_
  rintro e w2 ⟨rfl,hE⟩;have HE2:=hd (HE0.o.trans hE);have q:=(HB0.o.ext hE (by simp)).cell;have ql:=(HB0.o.ext hE (by simp)).lt;clear hE;cases hf:(decide (x1=0)&&decide (x2=0)&&decide (x3=0)&&decide (x5=0)&&decide (x6=0)&&(decide (y0=0)&&decide (y3.length=0))&&decide ((n:Int)=0))
  ·have HF:=hd hf;clear hf;go_wp2_with fail
   go_ret
   refine⟨ret_bool ?_,HE2.o⟩
   rw[HZ.o];have:=HF.o;simp at this⊢;intro a b c d e f g;simp_all
  ·have HF:=hd hf;clear hf;go_wp2_with fail
   go_ret
   refine⟨ret_bool ?_,HE2.o⟩
   rw[HZ.o];have:=HF.o;simp at this⊢;by_cases h4:x4=0<;>simp_all
 ·have e0:(x0==0)=false:=by simpa using h0
  have H0:=hd h0;clear h0;go_enter Tryz.func123,Tryz.ntmps123
  go_wp2_with fail
  go_ret
  exact⟨ret_bool (by rw[HZ.o];simp[H0.o]),HE0.o⟩
set_option maxHeartbeats 4000000 in
set_option maxRecDepth 100000 in
theorem stmtForm_any (h:SH)(n:Nat)(w:World):Calls Tryz.prog 81 #[stHV h n] w fun e w'=>e=.returned (.bool (!unusedS h n))/\Ext [] w w':=by
 obtain⟨a0,a1,a2,a3,a4,a5,a6,a7,a8,a9,aa⟩:=stArr_get h n h.val.h h.val.ks.length
 have HW:Hd (∀W,Blk W w.heap.size 43 (stArr h n h.val.h h.val.ks.length)->∀(j:Nat) (v:Value),(stVal h.val.h h.val.ks.length).toList[j]? = some v->W.cell? ⟨w.heap.size,11+j,none⟩=some v):=hd fun W hW j v hv=>by
  rw[hW.cell]
  have:(stArr h n h.val.h h.val.ks.length)[11+j]? = (stVal h.val.h h.val.ks.length)[j]?:=by
   rcases Nat.lt_or_ge j 10 with hj|hj
   ·have:j=0\/j=1\/j=2\/j=3\/j=4\/j=5\/j=6\/j=7\/j=8\/j=9:=by omega
    rcases this with rfl|rfl|rfl|rfl|rfl|rfl|rfl|rfl|rfl|rfl<;>rfl
   ·rw[Array.getElem?_eq_none (by simp[stArr];omega),Array.getElem?_eq_none (by simp[stVal];omega)]
  rw[this];simpa using hv
 have HB:=hd (Blk.new w 43 (stArr h n h.val.h h.val.ks.length));unfold stHV;generalize stArr h n h.val.h h.val.ks.length=arr at *;go_enter Tryz.func81,Tryz.ntmps81
 go_upto_region 1 with fail
 go_cut [3] (fun s wx=>s=.bool (!loopF h)/\wx=w.alloc (.cells arr 43))
 case first=>
  go_wp2_with fail
  all_goals
   go_meet
   refine⟨?_,rfl⟩
   have hnv:∀b:Bool,(!b) = !b:=fun _=>rfl
   simp_all [loopF,eqS]
 case rest=>
  obtain⟨rfl,rfl⟩:=hcut;have HE1:=hd ((Ext.refl [] w).alloc (.cells arr 43));generalize World.alloc w _=w1 at *;generalize w.heap.size=s0 at *;have q1:=HB.o.cell;have ql:=HB.o.lt;go_upto_region 2 with fail
  go_cut [4] (fun s wx=>s=.bool (!storeF h)/\Hd (Ext [] w wx)/\Hd (Blk wx s0 43 arr))
  case first=>
   by_cases hb:h.buf=0
   ·have HB0:=hd hb;go_wp2_with fail
    refine(zeroAffineR_any _ _ _ _ _).mono ?_
    rintro e w2 ⟨rfl,hE⟩;have HE2:=hd (HE1.o.trans hE);have HB2:=hd (HB.o.ext hE (by simp));clear hE q1 ql;have q2:=HB2.o.cell;have ql:=HB2.o.lt;have HWW:=hd (HW.o w2 HB2.o);generalize hz:(decide (h.at_.base=0)&&decide (h.at_.ts.length=0))=z;have HZ:Hd (zeroA h.at_=z):=hd hz;clear hz;cases z
    ·have HF:Hd (storeF h=true):=hd (by unfold storeF;rw[HZ.o];simp);go_wp2_with fail
     go_meet
     exact⟨by rw[HF.o];rfl,HE2,HB2⟩
    ·go_wp2_with (
      refine wpList_load_wideG rfl 41 _ rfl s0 11 rfl (stVal h.val.h h.val.ks.length) HWW.o _ Tryz.underlying41 rfl infoEx ?_)
     refine(noExpr_any h.val.h h.val.ks.length _).mono ?_
     rintro e w3 ⟨rfl,hE⟩;have HE3:=hd (HE2.o.trans hE);have HB3:=hd (HB2.o.ext hE (by simp));clear hE q2 ql;have HF:Hd (storeF h = !zeroE h.val.h h.val.ks.length):=hd (by unfold storeF;rw[HZ.o,HB0.o];simp);generalize zeroE h.val.h h.val.ks.length=z at *;cases z
     all_goals
      go_wp2_with fail
      go_meet
      exact⟨by rw[HF.o];rfl,HE3,HB3⟩
   ·have HF:Hd (storeF h=true):=hd (by unfold storeF;simp[hb]);have hb':(h.buf==0)=false:=by simpa using hb
    go_wp2_with fail
    go_meet
    exact⟨by rw[HF.o];rfl,HE1,HB⟩
  case rest=>
   obtain⟨rfl,HE2,HB2⟩:=hcut;rename World=>w2
   clear q1 ql HB HE1;have q2:=HB2.o.cell;have ql:=HB2.o.lt;have HU:Hd (∀k m,h.k=k->h.conds.length=m->unusedS h n=if k=1 then decide (0<m)||storeF h else if k=2 then loopF h||storeF h else loopF h||decide (0<m)||decide (0<n)):=hd fun k m hk hm=>by subst hk;subst hm;rfl
   generalize storeF h=sF at *;generalize loopF h=lF at *;generalize hk:h.k=k at *;generalize hm:h.conds.length=m at *;have HV:=hd (HU.o k m rfl rfl);clear HU hk hm;have EM:Hd (((m:Int)==0) = !decide (0<m)):=hd (by rw[Bool.eq_iff_iff];simp<;>omega);have EN:Hd (((n:Int)==0) = !decide (0<n)):=hd (by rw[Bool.eq_iff_iff];simp<;>omega);have em:decide (0<(m:Int))=decide (0<m):=decide_eq_decide.2 (by omega);have en:decide (0<(n:Int))=decide (0<n):=decide_eq_decide.2 (by omega);by_cases k1:k=1
   ·subst k1;rw[if_pos rfl] at HV;clear em en;cases sF
    all_goals go_wp2_with fail
    all_goals (go_ret;refine⟨ret_bool ?_,HE2.o⟩;rw[HV.o];have em3:=EM.o;have en3:=EN.o;clear EM EN HV;first|(simp_all;done)|(simp_all;omega)|(cases lF<;>simp_all;done)|(cases lF<;>simp_all<;>omega))
   ·rw[if_neg k1] at HV;have k1':(k==1)=false:=by simpa using k1
    by_cases k2:k=2
    ·rw[if_pos k2] at HV;subst k2;cases lF<;>cases sF
     all_goals go_wp2_with fail
     all_goals (go_ret;refine⟨ret_bool ?_,HE2.o⟩;rw[HV.o];have em3:=EM.o;have en3:=EN.o;clear EM EN HV;first|(simp_all;done)|(simp_all;omega)|(cases lF<;>simp_all;done)|(cases lF<;>simp_all<;>omega))
    ·rw[if_neg k2] at HV;have k2':(k==2)=false:=by simpa using k2
     clear k1 k2;clear em en;cases lF
     all_goals go_wp2_with fail
     all_goals (go_ret;refine⟨ret_bool ?_,HE2.o⟩;rw[HV.o];have em3:=EM.o;have en3:=EN.o;clear EM EN HV;first|(simp_all;done)|(simp_all;omega)|(cases lF<;>simp_all;done)|(cases lF<;>simp_all<;>omega))
end Go.Proofs.YtfppibmloloakaaGreatDoor
