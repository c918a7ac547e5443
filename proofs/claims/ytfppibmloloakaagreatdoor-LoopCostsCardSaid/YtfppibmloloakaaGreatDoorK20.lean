import Derived.Test.YtfppibmloloakaaGreatDoorK19
import Derived.Test.YtfppibmloloakaaGreatDoorK14
namespace Go.Proofs.YtfppibmloloakaaGreatDoor
open Go.RowKit Go.Proofs.Tryz
set_option linter.all false
set_option maxHeartbeats 64000000
theorem Qi:∀args w,(callFunc 126 args).run prog w=.ok (.enter 126 args) w:=by
 obtain⟨c,hc⟩:∃c,Tryz.f126.body=some c:=⟨_,rfl⟩;exact fun args w=>enters_of func126 (by kernel_rfl) hc args w
set_option maxRecDepth 100000 in
theorem Wy (h:SH)(n:Nat)(w:World):Calls prog 126 #[Ez h n] w fun e w'=>e=.returned (.bool (decide (h.k≠3)))/\Ext [] w w':=by
 obtain⟨a0,-⟩:=Cf h n h.val.h h.val.ks.length;unfold Ez;generalize Ai h n h.val.h h.val.ks.length=arr at *;go_enter func126,ntmps126
 go_wp2_with fail
 go_ret
 exact⟨Aa (by by_cases h:h.k=3<;>simp[h]),(jF _ _).alloc _⟩
set_option maxRecDepth 100000 in
theorem Ys (h:SH)(b:List St)(vars:List ByteArray)(VA:Option Addr)(vn vc:Nat)(w:World)(cb:Nat)(bA:Option Addr)(nb bc:Nat)(v1:Value)(bf:Int)(hX:Gc w (.mk h b))(hp:Al h.val<=1000000)(hV:Ak w VA 1 sC vars)(hvn:vars.length=vn)
  (hC:Blk w cb 78 #[.slice bA nb bc,v1,bf]) (hnb:nb<=1000000) (hk1:btw h.k 1 3=true) :
  Calls prog 82 #[.pointer (some cb),Ez h b.length,.slice VA vn vc] w (My (Eb vars nb h b) w):=by
 obtain⟨hc,aO,ha,hv,b2,hz,hb,hs⟩:=hX.all;have aE:=hd hc;have aR:=hd aO;have HA:=hd ha;have aF:=hd hv;have HZ:=hd hz;have aS:=hd hb;have HV:=hd hV;have ap:=hd hvn;have HC:=hd hC;have aT:=hd hp;have b5:=hC.lt;have aU:=Bu.1 hk1;have aV:h.k=1\/h.k=2\/h.k=3:=by omega
 clear hX hc aO ha hv b2 hz hb hs hV hvn hC hp hk1 aU;unfold Ez;obtain⟨a0,a1,a2,a3,a4,a5,a6,a7,a8,a9,aa⟩:=Cf h b.length h.val.h h.val.ks.length;have HW:=hd (fun W s0=>Sd (W:=W) (s0:=s0) h b.length h.val.h h.val.ks.length);have ah:=hd (jK w 43 (Ai h b.length h.val.h h.val.ks.length));have af:=hd ((jF [] w).alloc (.cells (Ai h b.length h.val.h h.val.ks.length) 43));have b6:=hd (show(prog.info? 43).map (·.size)=some (Ai h b.length h.val.h h.val.ks.length).size from Dv);generalize Ai h b.length h.val.h h.val.ks.length=arr at *;go_enter func82,ntmps82
 go_upto_region 1 with fail
 generalize World.alloc w _=w1 at *;generalize bh:w.heap.size=s0 at *;have qh:=ah.o.cell;have ql:=ah.o.lt;generalize hR:Eb vars nb h b=R at *;have HH:=hd (show R=Eb vars nb h b from hR.symm);clear hR;rcases aV with hk|hk|hk
 ·have HG:=hd (Uw (vars:=vars) (nb:=nb) (b:=b) hk);go_wp2_with fail
  refine(Vb h.var _ (by have:=HZ.o;omega)).mono ?_
  rintro r w3 ⟨rfl,hE⟩;have ab:=hd (af.o.trans hE);have ag:=hd (ah.o.ext hE (by simp));clear hE qh ql ah;have q3:=ag.o.cell;have ql:=ag.o.lt;cases hn:Cy h.var
  ·have HF:=hd (HH.o.trans (HG.o.trans (ijp hn)));clear hn;go_wp2_with fail
   go_ret
   exact⟨Ae HF.o.symm,ab.o⟩
  ·have ac:=hd (HG.o.trans (ijn (by rw[hn];simp)));clear hn HG;go_wp2_with fail
   refine(Of VA vn vc vars h.var _ (HV.o.keep ab.o) ap.o).mono ?_
   rintro r w4 ⟨rfl,hE⟩;have ad:=hd (ab.o.trans hE);have ae:=hd (ag.o.ext hE (by simp));clear hE q3 ql ag;have q4:=ae.o.cell;have ql:=ae.o.lt;cases hn:Fy vars h.var
   ·have al:=hd (ac.o.trans (ijn (by rw[hn];simp)));clear hn ac;go_upto_region 16 with fail
    go_cut [62] (fun s wx=>s=.bool (decide (bdd h.lo=false\/bdd h.hi=false\/btw h.step 1 100000=false))/\wx=w4)
    case first=>
     cases h1:bdd h.lo
     ·have H1:=hd h1;have aq:=hd (show btw h.lo (-100000) 100000=_ from h1);go_wp2_with fail
      refine(Ay _ _ _ _).mono ?_
      rintro r w' ⟨rfl,rfl⟩;rw[aq.o];go_wp2_with fail
      go_meet
      exact⟨by simp[H1.o],rfl⟩
     ·have H1:=hd h1;have aq:=hd (show btw h.lo (-100000) 100000=_ from h1);cases h2:bdd h.hi
      ·have H2:=hd h2;have aw:=hd (show btw h.hi (-100000) 100000=_ from h2);go_wp2_with fail
       refine(Ay _ _ _ _).mono ?_
       rintro r w' ⟨rfl,rfl⟩;rw[aq.o];go_wp2_with fail
       refine(Ay _ _ _ _).mono ?_
       rintro r w' ⟨rfl,rfl⟩;rw[aw.o];go_wp2_with fail
       go_meet
       exact⟨by simp[H2.o],rfl⟩
      ·have H2:=hd h2;have aw:=hd (show btw h.hi (-100000) 100000=_ from h2);go_wp2_with fail
       refine(Ay _ _ _ _).mono ?_
       rintro r w' ⟨rfl,rfl⟩;rw[aq.o];go_wp2_with fail
       refine(Ay _ _ _ _).mono ?_
       rintro r w' ⟨rfl,rfl⟩;rw[aw.o];clear h1 h2;go_wp2_with fail
       refine(Ay _ _ _ _).mono ?_
       rintro r w' ⟨rfl,rfl⟩;generalize aQ:btw h.step 1 100000=bs;have ay:=hd aQ;clear aQ;cases bs
       all_goals
        go_wp2_with fail
        go_meet
        exact⟨by simp[H1.o,H2.o,ay.o],rfl⟩
    case rest=>
     obtain⟨rfl,rfl⟩:=hcut;by_cases am:bdd h.lo=false\/bdd h.hi=false\/btw h.step 1 100000=false
     ·have HF:=hd (HH.o.trans (al.o.trans (ijp am)));rw[decide_eq_true am];clear am;go_wp2_with fail
      go_ret
      exact⟨Ae HF.o.symm,ad.o⟩
     ·have aG:=hd (al.o.trans (ijn am));rw[decide_eq_false am];clear am al
      have ay:=hd (fun W hW=>Aff h.A b.length h.cap b 126 #[] Hr W (aS.o.keep hW) rfl ⟨Qi,fun i x hx w' hw'=>by
       obtain⟨g,gs⟩:=x;exact Wy g gs.length w'⟩)
      cases hv:h.vec
      ·have HF:=hd (HH.o.trans (aG.o.trans (ijn (by rw[hv];simp))));rw[hv] at a5;go_wp2_with fail
       go_ret
       exact⟨Ae HF.o.symm,ad.o⟩
      ·have aH:=hd (aG.o);rw[hv] at a5;have aW:=hd hv;clear hv;go_wp2_with fail
       refine(ay.o _ ad.o).mono ?_
       rintro r w5 ⟨rfl,hE⟩;have aI:=hd (ad.o.trans hE);clear hE;cases hn:b.any Hr
       ·have HF:=hd (HH.o.trans (aH.o.trans (ijn (by rw[hn];simp))));clear hn;go_wp2_with fail
        go_ret
        exact⟨Ae HF.o.symm,aI.o⟩
       ·have HF:=hd (HH.o.trans (aH.o.trans (ijp ⟨aW.o,hn⟩)));clear hn;go_wp2_with fail
        go_ret
        exact⟨Ae HF.o.symm,aI.o⟩
   ·have HF:=hd (HH.o.trans (ac.o.trans (ijp hn)));clear hn;go_wp2_with fail
    go_ret
    exact⟨Ae HF.o.symm,ad.o⟩
 ·have HG:=hd (Ux (vars:=vars) (nb:=nb) (b:=b) hk);have b7:=aE.o.1;generalize hm:h.conds.length=m at *;have HM:=hd hm;clear hm;cases hq:btw (m:Int) 1 4
  ·have HF:=hd (HH.o.trans (HG.o.trans (ijp hq)));have HQ:=hd hq;clear hq;go_wp2_with fail
   refine(Ay _ _ _ _).mono ?_
   rintro r w' ⟨rfl,rfl⟩;rw[HQ.o];go_wp2_with fail
   go_ret
   exact⟨Ae HF.o.symm,af.o⟩
  ·have ac:=hd (HG.o.trans (ijn (by rw[hq];simp)));have aX:=Bu.1 hq;have b8:1<=m/\m<=4:=by omega
   have HQ:=hd hq;clear hq aX HG;go_wp2_with fail
   refine(Ay _ _ _ _).mono ?_
   rintro r w' ⟨rfl,rfl⟩;rw[HQ.o];go_wp2_with fail
   clear qh ql;go_loopw [97] (fun i wr=>∃k:Nat,i=.int .i64 k/\k<=m/\Hd (Ext [] w wr)/\Hd (∀(j:Nat) (a:Af),j<k->h.conds[j]? = some a->Cn vars a=0)) (fun i _=>(m-intOf i).toNat)
   case atStart=>exact⟨0,rfl,jQ _,af,hd fun j x hj=>absurd hj (by omega)⟩
   case round=>
    obtain⟨k,rfl,be,HE,aD⟩:=hrel;rename World=>wq
    by_cases bi:k<m
    ·obtain⟨bb,x,aP,hx,hc⟩:=(aE.o.keep HE.o).at (i:=k) (by have:=HM.o;omega);have aJ:=hd hx;have an:=ilm hx;have aY:=hd (aR.o x an);rw[aP] at a6;have az:=hd (HE.o.alloc (.cells #[.int .i64 x.base,.slice x.A x.ts.length x.cap] 38));have g0:=hc 0 _ rfl;have g1:=hc 1 _ rfl;rw[Nat.add_zero] at g0;rw[aP];clear hx hc an;go_wp2_with fail
     refine(Ja x VA vn vc vars _ (aY.o.keep az.o) (HV.o.keep az.o) ap.o).mono ?_
     rintro r w' ⟨rfl,hE⟩;have ab:=hd (az.o.trans hE);clear hE;generalize ao:Cn vars x=ax;have ai:=hd ao;clear ao;by_cases ak:ax=0
     ·subst ak;go_wp2_with fail
      go_roundw
      case rel=>
       refine⟨k+1,by go_num,by omega,ab,hd fun j e hj he=>?_⟩
       rcases Nat.lt_or_ge j k with h1|h1
       ·exact aD.o j e h1 he
       ·have:j=k:=by omega
        subst this;have:=aJ.o.symm.trans he;cases this
        exact ai.o
      case measure=>simp[intOf];omega
     ·have HF:=hd (HH.o.trans (ac.o.trans ((Jp aJ.o aD.o (by rw[ai.o];exact ak)).trans ai.o)));have ha0':(ax==0)=false:=by simpa using ak
      go_wp2_with fail
      go_ret
      exact⟨Ae HF.o.symm,ab.o⟩
    ·have HF:=hd (HH.o.trans (ac.o.trans (Jq HM.o fun i e hi he=>aD.o i e (by omega) he)));go_wp2_with fail
     go_ret
     exact⟨Ae HF.o.symm,HE.o⟩
 ·have HG:=hd (Uy (vars:=vars) (nb:=nb) (b:=b) hk);have aZ:=(HC.o.ext af.o (by simp)).cell;have aA:=(HC.o.ext af.o (by simp)).lt;go_wp2_with fail
  refine rgE 9 [] ?_
  simp only[TK]
  repeat(refine dE (fun wr nr hJ=>by(have q:=(ah.o.ext hJ (by simp)).cell;have ql:=(ah.o.ext hJ (by simp)).lt;have qc:=(HC.o.ext (af.o.trans hJ) (by simp)).cell;have ba:=(HC.o.ext (af.o.trans hJ) (by simp)).lt);clear hJ;exact CL) ?_;simp only[PT])
  refine Aj (fun w3 hJ hF=>?_)
  have ab:=hd (af.o.trans hJ);have ag:=hd (ah.o.ext hJ (by simp));clear hF hJ qh ql aZ aA;have q3:=ag.o.cell;have b0:=ag.o.lt;go_wp2_with fail
  refine(Ay _ _ _ _).mono ?_
  rintro r w' ⟨rfl,rfl⟩;cases hq:btw h.buf 0 (nb-1)
  ·have HF:=hd (HH.o.trans (HG.o.trans (ijp hq)));clear hq;go_wp2_with fail
   go_ret
   exact⟨Ae HF.o.symm,ab.o⟩
  ·have ac:=hd (HG.o.trans (ijn (by rw[hq];simp)));clear hq HG;go_wp2_with fail
   refine(Ja h.at_ VA vn vc vars _ (HA.o.keep ab.o) (HV.o.keep ab.o) ap.o).mono ?_
   rintro r w4 ⟨rfl,hE⟩;have ad:=hd (ab.o.trans hE);have ae:=hd (ag.o.ext hE (by simp));clear hE q3 b0;generalize ao:Cn vars h.at_=ax;have ai:=hd ao;clear ao;by_cases ak:ax=0
   ·subst ak;have al:=hd (ac.o.trans (ijp ai.o));have aK:=hd (fun W (hW:Ext [] w W)=>Aa5 h.val W (aF.o.keep hW) aT.o);rw[Cq] at aK;have aL:=hd (fun W (hW:Ext [] w W)=>Ad3 h.val vars VA vn vc W cb bA nb bc v1 bf (aF.o.keep hW) (HV.o.keep hW) ap.o (HC.o.ext hW (by simp)) hnb);rw[Cq] at aL;have aM:=hd (fun W (hW:Blk W s0 43 arr)=>HW.o W s0 hW);have q4:=ae.o.cell;have aN:=ae.o.lt
    go_wp2_with (
     refine Ac rfl 41 _ rfl s0 11 rfl (An h.val) (aM.o _ ae.o) _ underlying41 rfl Ch ?_)
    refine(aK.o _ ad.o).mono ?_
    rintro r w6 ⟨rfl,hE⟩;have au:=hd (ad.o.trans hE);have aB:=hd (ae.o.ext hE (by simp));clear hE q4 aN;have q6:=aB.o.cell;have bd:=aB.o.lt
    have aj:Jm 0 1 h.val=(decide (Al h.val<=32)&&decide (Lh h.val<=6)):=by
     unfold Jm;rw[Bool.eq_iff_iff];simp;omega
    generalize b3:Al h.val=pp at *;generalize b4:Lh h.val=dd at *;clear b3 b4;cases hf:Jm 0 1 h.val
    ·have HF:=hd (HH.o.trans (al.o.trans (ijn (by rw[hf];simp))));rw[hf] at aj;clear hf;by_cases aC:32<pp
     ·clear aj;go_wp2_with fail
      go_ret
      exact⟨Ae HF.o.symm,au.o⟩
     ·have h6:6<dd:=by simp at aj;omega
      clear aj;go_wp2_with fail
      go_ret
      exact⟨Ae HF.o.symm,au.o⟩
    ·have HF:=hd (HH.o.trans (al.o.trans (ijp hf)));rw[hf] at aj;have aC:¬32<pp/\¬6<dd:=by simp at aj;omega
     obtain⟨aC,h6⟩:=aC;clear hf aj
     go_wp2_with (
      refine Ac rfl 41 _ rfl s0 11 rfl (An h.val) (aM.o _ aB.o) _ underlying41 rfl Ch ?_)
     refine(aL.o _ au.o).mono ?_
     rintro r w7 ⟨rfl,hE⟩;have b1:=hd (au.o.trans hE);clear hE;go_wp2_with fail
     go_ret
     exact⟨Ae HF.o.symm,b1.o⟩
   ·have HF:=hd (HH.o.trans (ac.o.trans ((ijn (by rw[ai.o];exact ak)).trans ai.o)));have ha0':(ax==0)=false:=by simpa using ak
    have q4:=ae.o.cell;have aN:=ae.o.lt;go_wp2_with fail
    go_ret
    exact⟨Ae HF.o.symm,ad.o⟩
end Go.Proofs.YtfppibmloloakaaGreatDoor
