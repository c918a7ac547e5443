import Derived.Test.YtfppibmloloakaaGreatDoorK12
import Derived.Test.YtfppibmloloakaaGreatDoorK13
import Derived.Shelf.Abstract
namespace Go.Proofs.YtfppibmloloakaaGreatDoor
open Go.RowKit Go.Proofs.Tryz
set_option linter.all false
set_option maxHeartbeats 64000000
theorem Sc:∀args w,(callFunc 218 args).run prog w=.ok (.enter 218 args) w:=by
 obtain⟨c,hc⟩:∃c,Tryz.f218.body=some c:=⟨_,rfl⟩;exact fun args w=>enters_of func218 (by kernel_rfl) hc args w
theorem Aco {vars:List ByteArray}{nb before:Nat}{h:SH}{b:List St}(h1:3000<=before\/h.k=1/\8<=vars.length):Ff vars nb before h b=2:=by unfold Ff;rw[ijp h1]
theorem Acp {vars:List ByteArray}{nb before:Nat}{h:SH}{b:List St}(h1:¬(3000<=before\/h.k=1/\8<=vars.length))(h2:btw h.k 1 3=false):Ff vars nb before h b=4:=by unfold Ff;rw[ijn h1,ijp h2]
theorem Acq {vars:List ByteArray}{nb before:Nat}{h:SH}{b:List St}(h1:¬(3000<=before\/h.k=1/\8<=vars.length))(h2:btw h.k 1 3=true)(h3:Ga h b.length=true):Ff vars nb before h b=3:=by unfold Ff;rw[ijn h1,ijn (by simp[h2]),ijp h3]
theorem Acr {vars:List ByteArray}{nb before:Nat}{h:SH}{b:List St}(h1:¬(3000<=before\/h.k=1/\8<=vars.length))(h2:btw h.k 1 3=true)(h3:Ga h b.length=false):Ff vars nb before h b=Eb vars nb h b:=by unfold Ff;rw[ijn h1,ijn (by simp[h2]),ijn (by simp[h3])]
theorem Sd {W:World}{s0:Nat}(h:SH)(n:Nat)(x:EH)(m:Nat)(hW:Blk W s0 43 (Ai h n x m)):∀(j:Nat) (v:Value),(Ke x m).toList[j]? = some v->W.cell? ⟨s0,11+j,none⟩=some v:=fun j v hv=>by
 rw[hW.cell]
 have:(Ai h n x m)[11+j]? = (Ke x m)[j]?:=by
  rcases Nat.lt_or_ge j 10 with hj|hj
  ·have:j=0\/j=1\/j=2\/j=3\/j=4\/j=5\/j=6\/j=7\/j=8\/j=9:=by omega
   rcases this with rfl|rfl|rfl|rfl|rfl|rfl|rfl|rfl|rfl|rfl<;>rfl
  ·rw[Array.getElem?_eq_none (by simp[Ai];omega),Array.getElem?_eq_none (by simp[Ke];omega)]
 rw[this];simpa using hv
theorem Uw {vars:List ByteArray}{nb:Nat}{h:SH}{b:List St}(hk:h.k=1):Eb vars nb h b=if Cy h.var=false then 5 else if Fy vars h.var then 6 else if bdd h.lo=false\/bdd h.hi=false\/btw h.step 1 100000=false then 9 else if h.vec=true/\b.any Hr=true then 3 else 0:=by unfold Eb;rw[ijp hk]
theorem Ux {vars:List ByteArray}{nb:Nat}{h:SH}{b:List St}(hk:h.k=2):Eb vars nb h b=if btw h.conds.length 1 4=false then 3 else Gb (Cn vars) h.conds:=by unfold Eb;rw[ijn (by omega),ijp hk]
theorem Uy {vars:List ByteArray}{nb:Nat}{h:SH}{b:List St}(hk:h.k=3):Eb vars nb h b=if btw h.buf 0 (nb-1)=false then 1 else if Cn vars h.at_=0 then(if Jm 0 1 h.val then Bs vars nb h.val else 2) else Cn vars h.at_:=by unfold Eb;rw[ijn (by omega),ijn (by omega)]
set_option maxRecDepth 100000 in
theorem Agb (h:SH)(b:List St)(vars:List ByteArray)(VA:Option Addr)(vn vc:Nat)(w:World)(cb:Nat)(bA:Option Addr)(nb bc before:Nat)(hX:Gc w (.mk h b))(hV:Ak w VA 1 sC vars)(hvn:vars.length=vn)
  (hC:Blk w cb 238 #[.slice bA nb bc,before]) (hnb:nb<=1000000) (hbf:before<=3000) :
  Calls prog 188 #[.pointer (some cb),Ez h b.length,.slice VA vn vc] w (My (Ff vars nb before h b) w):=by
 obtain⟨hc,aT,ha,hv,hp,hz,hb,hs⟩:=hX.all;have aJ:=hd hc;have aW:=hd aT;have HA:=hd ha;have aK:=hd hv;have HZ:=hd hz;have aX:=hd hb;have HV:=hd hV;have ak:=hd hvn;have HC:=hd hC;have ba:=hC.lt;have aC:=hd (fun W=>Aau h b.length W);clear hX hc aT ha hv hp hz hb hs hV hvn hC;unfold Ez at aC⊢;obtain⟨a0,a1,a2,a3,a4,a5,a6,a7,a8,a9,aa⟩:=Cf h b.length h.val.h h.val.ks.length;have HW:=hd (fun W s0=>Sd (W:=W) (s0:=s0) h b.length h.val.h h.val.ks.length);have az:=hd (jK w 43 (Ai h b.length h.val.h h.val.ks.length));have ao:=hd ((jF [] w).alloc (.cells (Ai h b.length h.val.h h.val.ks.length) 43));have aY:=hd (show(prog.info? 43).map (·.size)=some (Ai h b.length h.val.h h.val.ks.length).size from Dv);generalize Ai h b.length h.val.h h.val.ks.length=arr at *;go_enter func188,ntmps188
 go_upto_region 1 with fail
 generalize World.alloc w _=w1 at *;generalize bi:w.heap.size=s0 at *;have q1:=az.o.cell;have ql:=az.o.lt;have c1:=(HC.o.ext ao.o (by simp)).cell;have aZ:=(HC.o.ext ao.o (by simp)).lt;go_cut [12] (fun s wx=>s=.bool (decide (3000<=before\/h.k=1/\8<=vn))/\wx=w1)
 case first=>
  go_wp2_with fail
  all_goals
   go_meet
   refine⟨congrArg Value.bool ?_,rfl⟩
   first|exact decide_eq_decide.2 (by omega)|exact(decide_eq_true (by omega)).symm|exact(decide_eq_false (by omega)).symm|(rw[Bool.eq_iff_iff];simp only[Bool.or_eq_true,decide_eq_true_eq];omega)|(simp_all;done)|(simp_all;omega)
 case rest=>
  obtain⟨rfl,rfl⟩:=hcut;by_cases am:3000<=before\/h.k=1/\8<=vn
  ·have HF:=hd (Aco (nb:=nb) (b:=b) (show 3000<=before\/h.k=1/\8<=vars.length by rw[ak.o];exact am));rw[decide_eq_true am];clear am;go_wp2_with fail
   go_ret
   exact⟨Ae HF.o.symm,ao.o⟩
  ·have aA:=hd (show ¬(3000<=before\/h.k=1/\8<=vars.length) by rw[ak.o];exact am);rw[decide_eq_false am];clear am;go_upto_region 3 with fail
   go_cut [28] (fun s wx=>s=.bool (!btw h.k 1 3)/\Hd (Ext [] w wx)/\Hd (Blk wx s0 43 arr))
   case first=>
    go_wp2_with fail
    all_goals
     go_meet
     refine⟨congrArg Value.bool ?_,ao,az⟩
     unfold btw
     first|exact decide_eq_decide.2 (by omega)|(rw[Bool.eq_iff_iff];simp;omega)|(rw[Bool.eq_iff_iff];simp only[Bool.or_eq_true,decide_eq_true_eq,Bool.not_eq_true',Bool.and_eq_false_iff,decide_eq_false_iff_not];omega)|(simp_all;done)|(simp_all;omega)
   case rest=>
    obtain⟨rfl,aU,aw⟩:=hcut;clear q1 ql c1 aZ az ao;rename World=>w1'
    have q1:=aw.o.cell;have ql:=aw.o.lt;cases hk:btw h.k 1 3
    ·have HF:=hd (Acp aA.o hk (nb:=nb) (b:=b));clear hk;go_wp2_with fail
     go_ret
     exact⟨Ae HF.o.symm,aU.o⟩
    ·have HK:=hd hk;clear hk
     go_wp2_with (
      refine Ac rfl 43 _ rfl s0 0 rfl arr aw.o.wide _ underlying43 rfl aY.o ?_)
     refine(aC.o _).mono ?_
     rintro r w2 ⟨rfl,hE⟩;have ad:=hd (aU.o.trans hE);have ap:=hd (aw.o.ext hE (by simp));clear hE q1 ql aw;cases hu:Ga h b.length
     ·have HH:=hd (Acr aA.o HK.o hu (nb:=nb));clear hu aC;have q2:=ap.o.cell;have ql:=ap.o.lt;have b0:=Bu.1 HK.o;have b1:h.k=1\/h.k=2\/h.k=3:=by omega
      clear b0 HK;generalize hR:Ff vars nb before h b=R at *;clear hR;have ab:=hd (show R=Eb vars nb h b from HH.o);clear HH aA;rcases b1 with hk|hk|hk
      ·have HG:=hd (Uw (vars:=vars) (nb:=nb) (b:=b) hk);go_wp2_with fail
       refine(Sb h.var _ (by have:=HZ.o;omega)).mono ?_
       rintro r w3 ⟨rfl,hE⟩;have ac:=hd (ad.o.trans hE);have ag:=hd (ap.o.ext hE (by simp));clear hE q2 ql ap;have q3:=ag.o.cell;have ql:=ag.o.lt;cases hn:Cy h.var
       ·have HF:=hd (ab.o.trans (HG.o.trans (ijp hn)));clear hn;go_wp2_with fail
        go_ret
        exact⟨Ae HF.o.symm,ac.o⟩
       ·have ae:=hd (HG.o.trans (ijn (by rw[hn];simp)));clear hn HG;go_wp2_with fail
        refine(Of VA vn vc vars h.var _ (HV.o.keep ac.o) ak.o).mono ?_
        rintro r w4 ⟨rfl,hE⟩;have af:=hd (ac.o.trans hE);have ah:=hd (ag.o.ext hE (by simp));clear hE q3 ql ag;have q4:=ah.o.cell;have ql:=ah.o.lt;cases hn:Fy vars h.var
        ·have al:=hd (ae.o.trans (ijn (by rw[hn];simp)));clear hn ae;go_upto_region 22 with fail
         go_cut [83] (fun s wx=>s=.bool (decide (bdd h.lo=false\/bdd h.hi=false\/btw h.step 1 100000=false))/\wx=w4)
         case first=>
          cases h1:bdd h.lo
          ·have H1:=hd h1;go_wp2_with fail
           refine(Dz _ _).mono ?_
           rintro r w' ⟨rfl,rfl⟩;rw[H1.o];go_wp2_with fail
           go_meet
           exact⟨by simp[H1.o],rfl⟩
          ·have H1:=hd h1;cases h2:bdd h.hi
           ·have H2:=hd h2;go_wp2_with fail
            refine(Dz _ _).mono ?_
            rintro r w' ⟨rfl,rfl⟩;rw[H1.o];go_wp2_with fail
            refine(Dz _ _).mono ?_
            rintro r w' ⟨rfl,rfl⟩;rw[H2.o];go_wp2_with fail
            go_meet
            exact⟨by simp[H2.o],rfl⟩
           ·have H2:=hd h2;go_wp2_with fail
            refine(Dz _ _).mono ?_
            rintro r w' ⟨rfl,rfl⟩;rw[H1.o];go_wp2_with fail
            refine(Dz _ _).mono ?_
            rintro r w' ⟨rfl,rfl⟩;rw[H2.o];clear h1 h2;go_wp2_with fail
            all_goals
             go_meet
             refine⟨congrArg Value.bool ?_,rfl⟩
             have h1:=H1.o;have h2:=H2.o
             first|(rw[Bool.eq_iff_iff];simp[btw];omega)|(simp_all [btw];done)|(simp_all [btw];omega)
         case rest=>
          obtain⟨rfl,rfl⟩:=hcut;by_cases an:bdd h.lo=false\/bdd h.hi=false\/btw h.step 1 100000=false
          ·have HF:=hd (ab.o.trans (al.o.trans (ijp an)));rw[decide_eq_true an];clear an;go_wp2_with fail
           go_ret
           exact⟨Ae HF.o.symm,af.o⟩
          ·have aL:=hd (al.o.trans (ijn an));rw[decide_eq_false an];clear an al
           have b2:=hd (fun W hW=>Aff h.A b.length h.cap b 218 #[] Hr W (aX.o.keep hW) rfl ⟨Sc,fun i x hx w' hw'=>by
            obtain⟨g,gs⟩:=x;exact Yh g gs.length w'⟩)
           cases hv:h.vec
           ·have HF:=hd (ab.o.trans (aL.o.trans (ijn (by rw[hv];simp))));rw[hv] at a5;go_wp2_with fail
            go_ret
            exact⟨Ae HF.o.symm,af.o⟩
           ·have aM:=hd (aL.o);rw[hv] at a5;have b3:=hd hv;clear hv;go_wp2_with fail
            refine(b2.o _ af.o).mono ?_
            rintro r w5 ⟨rfl,hE⟩;have aq:=hd (af.o.trans hE);clear hE;cases hn:b.any Hr
            ·have HF:=hd (ab.o.trans (aM.o.trans (ijn (by rw[hn];simp))));clear hn;go_wp2_with fail
             go_ret
             exact⟨Ae HF.o.symm,aq.o⟩
            ·have HF:=hd (ab.o.trans (aM.o.trans (ijp ⟨b3.o,hn⟩)));clear hn;go_wp2_with fail
             go_ret
             exact⟨Ae HF.o.symm,aq.o⟩
        ·have HF:=hd (ab.o.trans (ae.o.trans (ijp hn)));clear hn;go_wp2_with fail
         go_ret
         exact⟨Ae HF.o.symm,af.o⟩
      ·have HG:=hd (Ux (vars:=vars) (nb:=nb) (b:=b) hk);have bd:=aJ.o.1;generalize hm:h.conds.length=m at *;have HM:=hd hm;clear hm;cases hq:btw (m:Int) 1 4
       ·have HF:=hd (ab.o.trans (HG.o.trans (ijp hq)));have aB:¬(1<=(m:Int)/\(m:Int)<=4):=fun h=>by rw[Bu.2 h] at hq;cases hq
        clear hq;go_wp2_with fail
        all_goals first|(go_ret;exact⟨Ae HF.o.symm,ad.o⟩)|(exfalso;omega)
       ·have ae:=hd (HG.o.trans (ijn (by rw[hq];simp)));have aB:=Bu.1 hq;have be:1<=m/\m<=4:=by omega
        clear hq aB HG;have e1:decide ((m:Int)<1)=false:=by simp;omega
        have e2:decide (4<(m:Int))=false:=by simp;omega
        go_wp2_with fail
        clear q2 ql;go_loopw [127] (fun i wr=>∃k:Nat,i=.int .i64 k/\k<=m/\Hd (Ext [] w wr)/\Hd (∀(j:Nat) (a:Af),j<k->h.conds[j]? = some a->Cn vars a=0)) (fun i _=>(m-intOf i).toNat)
        case atStart=>exact⟨0,rfl,jQ _,ad,hd fun j x hj=>absurd hj (by omega)⟩
        case round=>
         obtain⟨k,rfl,bh,HE,aI⟩:=hrel;rename World=>wq
         by_cases bj:k<m
         ·obtain⟨bb,x,aV,hx,hc⟩:=(aJ.o.keep HE.o).at (i:=k) (by have:=HM.o;omega);have aN:=hd hx;have au:=ilm hx;have b4:=hd (aW.o x au);rw[aV] at a6;have aD:=hd (HE.o.alloc (.cells #[.int .i64 x.base,.slice x.A x.ts.length x.cap] 38));have g0:=hc 0 _ rfl;have g1:=hc 1 _ rfl;rw[Nat.add_zero] at g0;rw[aV];clear hx hc au;go_wp2_with fail
          refine(No x VA vn vc vars _ (b4.o.keep aD.o) (HV.o.keep aD.o) ak.o).mono ?_
          rintro r w' ⟨rfl,hE⟩;have ac:=hd (aD.o.trans hE);clear hE;generalize ay:Cn vars x=ax;have ai:=hd ay;clear ay;by_cases aj:ax=0
          ·subst aj;go_wp2_with fail
           go_roundw
           case rel=>
            refine⟨k+1,by go_num,by omega,ac,hd fun j e hj he=>?_⟩
            rcases Nat.lt_or_ge j k with h1|h1
            ·exact aI.o j e h1 he
            ·have:j=k:=by omega
             subst this;have:=aN.o.symm.trans he;cases this
             exact ai.o
           case measure=>simp[intOf];omega
          ·have HF:=hd (ab.o.trans (ae.o.trans ((Jp aN.o aI.o (by rw[ai.o];exact aj)).trans ai.o)));have ha0':(ax==0)=false:=by simpa using aj
           go_wp2_with fail
           go_ret
           exact⟨Ae HF.o.symm,ac.o⟩
         ·have HF:=hd (ab.o.trans (ae.o.trans (Jq HM.o fun i e hi he=>aI.o i e (by omega) he)));go_wp2_with fail
          go_ret
          exact⟨Ae HF.o.symm,HE.o⟩
      ·have HG:=hd (Uy (vars:=vars) (nb:=nb) (b:=b) hk);have b5:=(HC.o.ext ad.o (by simp)).cell;have aE:=(HC.o.ext ad.o (by simp)).lt;go_wp2_with fail
       cases hq:btw h.buf 0 (nb-1)
       ·have HF:=hd (ab.o.trans (HG.o.trans (ijp hq)));have aB:¬(0<=h.buf/\h.buf<=(nb:Int)-1):=fun h=>by rw[Bu.2 h] at hq;cases hq
        clear hq;by_cases h6:h.buf<0
        ·have e6:decide (h.buf<0)=true:=by simpa using h6
         go_quiet (fail)
         go_wp2_with fail
         go_ret
         exact⟨Ae HF.o.symm,ad.o.drewN _⟩
        ·have e6:decide (h.buf<0)=false:=by simpa using h6
         have e7:decide ((nb:Int)<=h.buf)=true:=by simp;omega
         go_quiet (fail)
         go_wp2_with fail
         go_ret
         exact⟨Ae HF.o.symm,ad.o.drewN _⟩
       ·have ae:=hd (HG.o.trans (ijn (by rw[hq];simp)));have aB:=Bu.1 hq;clear hq HG;have e6:decide (h.buf<0)=false:=by simp;omega
        have e7:decide ((nb:Int)<=h.buf)=false:=by simp;omega
        go_quiet (fail)
        have ac:=hd (ad.o.drewN nq);have ag:=hd (ap.o.drewN nq);generalize World.drewN w2 nq=w3 at *;have q3:=ag.o.cell;have b6:=ag.o.lt;clear q2 ql b5 aE;go_wp2_with fail
        refine(No h.at_ VA vn vc vars _ (HA.o.keep ac.o) (HV.o.keep ac.o) ak.o).mono ?_
        rintro r w4 ⟨rfl,hE⟩;have af:=hd (ac.o.trans hE);have ah:=hd (ag.o.ext hE (by simp));clear hE q3 b6;generalize ay:Cn vars h.at_=ax;have ai:=hd ay;clear ay;by_cases aj:ax=0
        ·subst aj;have al:=hd (ae.o.trans (ijp ai.o));have q4:=ah.o.cell;have aO:=ah.o.lt;have aq:=hd (af.o.alloc (.cells #[(0:Int)] 3));have aP:=hd (ah.o.alloc (.cells #[(0:Int)] 3));have b7:=hd (jK w4 3 #[(0:Int)]);have aF:=af.o.size;have aQ:=hd (fun W (hW:Blk W s0 43 arr)=>HW.o W s0 hW);have aR:=hd (Xz h.val 0 1 w (w4.alloc (.cells #[(0:Int)] 3)) w4.heap.size aK.o aq.o aF (by omega) (by omega) b7.o);rw[Cq] at aR;have aS:=hd (fun W (hW:Ext [] w W)=>Af9 h.val vars VA vn vc W cb bA nb bc before (aK.o.keep hW) (HV.o.keep hW) ak.o (HC.o.ext hW (by simp)) hnb);rw[Cq] at aS
         go_wp2_with (
          refine Ac rfl 41 _ rfl s0 11 rfl (An h.val) (aQ.o _ aP.o) _ underlying41 rfl Ch ?_)
         refine aR.o.mono ?_
         rintro r w6 ⟨m6,rfl,hE,hM,-⟩;have aG:=hd (Ea aq.o hE (by simp;omega));have aH:=hd (aP.o.ext hE (by simp;omega));clear hE hM q4 aO;have q6:=aH.o.cell;have bf:=aH.o.lt;cases hf:Jm 0 1 h.val
         ·have HF:=hd (ab.o.trans (al.o.trans (ijn (by rw[hf];simp))));clear hf;go_wp2_with fail
          go_ret
          exact⟨Ae HF.o.symm,aG.o⟩
         ·have HF:=hd (ab.o.trans (al.o.trans (ijp hf)));clear hf
          go_wp2_with (
           refine Ac rfl 41 _ rfl s0 11 rfl (An h.val) (aQ.o _ aH.o) _ underlying41 rfl Ch ?_)
          refine(aS.o _ aG.o).mono ?_
          rintro r w7 ⟨rfl,hE⟩;have b8:=hd (aG.o.trans hE);clear hE;go_wp2_with fail
          go_ret
          exact⟨Ae HF.o.symm,b8.o⟩
        ·have HF:=hd (ab.o.trans (ae.o.trans ((ijn (by rw[ai.o];exact aj)).trans ai.o)));have ha0':(ax==0)=false:=by simpa using aj
         have q4:=ah.o.cell;have aO:=ah.o.lt;go_wp2_with fail
         go_ret
         exact⟨Ae HF.o.symm,af.o⟩
     ·have HF:=hd (Acq aA.o HK.o hu (nb:=nb));clear hu;go_wp2_with fail
      go_ret
      exact⟨Ae HF.o.symm,ad.o⟩
theorem Ait (x lo hi:Int):(decide (x<lo)||decide (hi<x)) = !btw x lo hi:=by
 unfold btw;by_cases h1:x<lo
 ·have h2:¬lo<=x:=by omega
  simp[h1,h2]
 ·have h2:lo<=x:=by omega
  by_cases h3:hi<x
  ·have h4:¬x<=hi:=by omega
   simp[h1,h2,h3,h4]
  ·have h4:x<=hi:=by omega
   simp[h1,h2,h3,h4]
theorem Akf {x lo hi:Int}(h:x<lo):true = !btw x lo hi:=by
 have:btw x lo hi=false:=by
  cases hb:btw x lo hi
  ·rfl
  ·have:=Bu.1 hb;omega
 rw[this];rfl
theorem Fm {l:List Bf}{ahead:List Bf}{j:Nat}{b:Bf}(h:l[j]? = some b)(h0:∀(i:Nat) (x:Bf),i<j->l[i]? = some x->Ki (ahead ++ l.take i) x=0)(hn:Ki (ahead ++ l.take j) b≠0):Ih ahead l=Ki (ahead ++ l.take j) b:=by
 induction l generalizing j ahead with
 | nil=>simp at h
 | cons x l ih=>
  cases j with
  | zero=>simp at h;subst h;simp at hn⊢;simp[Ih,hn]
  | succ j=>
   have h1:=h0 0 x (by omega) rfl;simp at h1;simp only[Ih,h1,if_pos];have e:ahead ++ (x :: l).take (j+1)=(ahead ++ [x]) ++ l.take j:=by simp
   rw[e] at hn⊢;refine ih (by simpa using h) (fun i b hi hb=>?_) hn
   have:=h0 (i+1) b (by omega) (by simpa using hb);rw[show ahead ++ (x :: l).take (i+1)=(ahead ++ [x]) ++ l.take i by simp] at this;exact this
theorem Yl {l:List Bf}{ahead:List Bf}{n:Nat}(hn:l.length=n)(h0:∀(i:Nat) (x:Bf),i<n->l[i]? = some x->Ki (ahead ++ l.take i) x=0):Ih ahead l=0:=by
 induction l generalizing ahead n with
 | nil=>simp[Ih]
 | cons x l ih=>
  simp at hn;have h1:=h0 0 x (by omega) rfl;simp at h1;simp only[Ih,h1,if_pos];refine ih (n:=l.length) rfl fun i b hi hb=>?_
  have:=h0 (i+1) b (by omega) (by simpa using hb);rw[show ahead ++ (x :: l).take (i+1)=(ahead ++ [x]) ++ l.take i by simp] at this;exact this
theorem Ws (a b:List Bf):Iu (a ++ b)=Iu a+Iu b:=by
 induction a with
 | nil=>simp[Iu]
 | cons x a ih=>simp[Iu,ih];omega
theorem Sf {l:List Bf}{j:Nat}{b:Bf}(h:l[j]? = some b):Iu (l.take (j+1))=Iu (l.take j)+b.size:=by
 rw[List.take_add_one,h,Ws];simp[Iu]
theorem Agc {ah:List Bf}{b:Bf}(h:Cy b.name=false):Ki ah b=5:=by unfold Ki;rw[ijp h]
theorem Agd {ah:List Bf}{b:Bf}(h:Cy b.name=true)(h2:ah.any (fun x=>eqS x.name b.name)=true):Ki ah b=6:=by unfold Ki;rw[ijn (by simp[h]),ijp h2]
theorem Age {ah:List Bf}{b:Bf}(h:Cy b.name=true)(h2:ah.any (fun x=>eqS x.name b.name)=false)(h3:btw b.size 1 262144=false):Ki ah b=9:=by unfold Ki;rw[ijn (by simp[h]),ijn (by simp[h2]),ijp h3]
theorem Agf {ah:List Bf}{b:Bf}(h:Cy b.name=true)(h2:ah.any (fun x=>eqS x.name b.name)=false)(h3:btw b.size 1 262144=true)(h4:0<b.data.length/\((b.data.length:Int)≠b.size\/b.set=false)):Ki ah b=3:=by unfold Ki;rw[ijn (by simp[h]),ijn (by simp[h2]),ijn (by simp[h3]),ijp h4]
theorem Agg {ah:List Bf}{b:Bf}(h:Cy b.name=true)(h2:ah.any (fun x=>eqS x.name b.name)=false)(h3:btw b.size 1 262144=true)(h4:¬(0<b.data.length/\((b.data.length:Int)≠b.size\/b.set=false))):Ki ah b=if b.data.any (fun x=>!Dt x) then 9 else 0:=by unfold Ki;rw[ijn (by simp[h]),ijn (by simp[h2]),ijn (by simp[h3]),ijn h4]
theorem Aaw (x:Bf)(s:ByteArray)(bb:Nat)(w:World)(hc:w.cell? ⟨bb,0,none⟩=some (.string s)):Calls prog 186 #[bfV x,.pointer (some bb)] w (Fk (eqS x.name s) w):=by
 have hl:=jB w _ hc;simp only at hl;obtain⟨xa,xb,xc,xd,xe,xf⟩:=x;dsimp only[bfV];go_enter func186,ntmps186
 go_wp2_with fail
 go_ret
 exact⟨rfl,(jF _ _).alloc _⟩
theorem Aax (x:Int)(w:World):Calls prog 187 #[x] w (Fk (!Dt x) w):=by
 go_enter func187,ntmps187
 go_wp2_with fail
 refine(Kr x _).mono ?_
 rintro e w' ⟨rfl,rfl⟩;go_wp2_with fail
 go_ret
 exact⟨rfl,jF _ _⟩
theorem Ub:∀args w,(callFunc 186 args).run prog w=.ok (.enter 186 args) w:=by
 obtain⟨c,hc⟩:∃c,Tryz.f186.body=some c:=⟨_,rfl⟩;exact fun args w=>enters_of func186 (by kernel_rfl) hc args w
theorem Uc:∀args w,(callFunc 187 args).run prog w=.ok (.enter 187 args) w:=by
 obtain⟨c,hc⟩:∃c,Tryz.f187.body=some c:=⟨_,rfl⟩;exact fun args w=>enters_of func187 (by kernel_rfl) hc args w
theorem Ak.less {α:Type}{w:World}{A:Option Addr}{k:Nat}{cs:α->List Value}{l:List α}(h:Ak w A k cs l)(j:Nat):Ak w A k cs (l.take j):=by
 obtain⟨h0,hx⟩:=h;refine⟨by rw[List.length_take];omega,?_⟩
 rcases hx with hx|⟨b,hb,hc⟩
 ·subst hx;exact .inl (by simp)
 ·exact .inr ⟨b,hb,fun i x hx=>hc i x (by rw[List.getElem?_take] at hx;split at hx;exact hx;cases hx)⟩
set_option maxRecDepth 100000 in
theorem Ym (A:Option Addr)(n cap:Nat)(l:List Bf)(w:World)(hR:Ak w A 4 bfC l)(hS:∀b∈l,Aab w b)(hn:l.length=n)(hcp:n<=cap/\cap<=9223372036854775807) :
  Calls prog 145 #[.slice A n cap] w (My (Dy l) w):=by
 have aF:n<=1000000:=by have:=hR.1;omega
 have HR:=hd hR;have HS:=hd hS;have HN:=hd hn;have HV:Hd (Dy l=if 400<n then 2 else if Ih [] l=0 then(if 262144<Iu l then 2 else 0) else Ih [] l):=hd (by unfold Dy;rw[hn]);clear hR hS hn;by_cases h4:400<n
 ·have HF:=hd (HV.o.trans (ijp h4));go_enter func145,ntmps145
  go_wp2_with fail
  go_ret
  exact⟨Ae HF.o.symm,jF _ _⟩
 ·have aa:=hd (HV.o.trans (ijn h4));clear HV;go_enter func145,ntmps145
  go_wp2_with fail
  go_loopw [3,11] (fun t i wr=>∃(k:Nat) (z:Int),i=.int .i64 k/\t=.int .i64 z/\k<=n/\0<=z/\z<=k*262144/\Hd (Iu (l.take k)=z)/\Hd (Ext [] w wr)/\Hd (∀(j:Nat) (b:Bf),j<k->l[j]? = some b->Ki ([] ++ l.take j) b=0)) (fun _ i _=>(n-intOf i).toNat)
  case atStart=>exact⟨0,0,rfl,rfl,jQ _,Int.le_refl _,by simp,hd rfl,hd (jF _ _),hd fun j x hj=>absurd hj (by omega)⟩
  case round=>
   obtain⟨k,z,rfl,rfl,hk,aI,aJ,HZ,HE,a8⟩:=hrel;rename World=>wq
   by_cases aN:k<n
   ·have aA:=hd ((HR.o.keep HE.o).less k);obtain⟨b,x,rfl,hx,hc⟩:=(HR.o.keep HE.o).at (i:=k) (by have:=HN.o;omega);have a7:=hd hx;have ac:=ilm hx;have aj:=hd (HS.o x ac);obtain⟨xa,xb,xc,xd,xe,xf⟩:=x;have g0:=hc 0 _ rfl;have g1:=hc 1 _ rfl;have g2:=hc 2 _ rfl;have g3:=hc 3 _ rfl;rw[Nat.add_zero] at g0;dsimp only at g0 g1 g2 g3;have aB:Hd ((l.take k).length=k):=hd (by rw[List.length_take];have:=HN.o;omega);have an:=hd (HE.o.alloc (.cells #[.string xa,xb,.bool xc,.slice xd xf.length xe] 45));have ao:=hd (jK wq 45 #[.string xa,xb,.bool xc,.slice xd xf.length xe]);have ap:=hd ((jF [] wq).alloc (.cells #[.string xa,xb,.bool xc,.slice xd xf.length xe] 45));have aG:=aj.o.1.1;clear hx hc ac;go_wp2_with fail
    generalize World.alloc wq _=w1 at *;generalize aM:wq.heap.size=s1 at *;refine(Sb xa w1 (by have:=aj.o.2;simp only at this;omega)).mono ?_
    rintro r w2 ⟨rfl,hE⟩;have aq:=hd (an.o.trans hE);have ae:=hd (ao.o.ext hE (by simp));have ak:=hd (ap.o.trans hE);clear hE ao an ap;have q2:=ae.o.cell;have ql:=ae.o.lt;cases hnm:Cy xa
    ·have a1:=hd (Agc (ah:=[] ++ l.take k) (b:=⟨xa,xb,xc,xd,xe,xf⟩) hnm);have HF:=hd (show Dy l=5 by rw[aa.o,Fm a7.o a8.o (by rw[a1.o];omega),a1.o];rfl);clear hnm;go_wp2_with fail
     go_ret
     exact⟨Ae HF.o.symm,aq.o⟩
    ·have af:=hd hnm;clear hnm;go_wp2_with fail
     have au:w2.cell? ⟨s1,0,none⟩=some (.string xa):=q2 0;refine(Afc (some b) k cap (l.take k) 186 #[.pointer (some s1)] (fun x=>eqS x.name xa) w2 (aA.o.keep ak.o) aB.o ⟨Ub,fun i y hy w' hw'=>Aaw y xa s1 w' (hw'.held au (jH))⟩).mono ?_
     rintro r w3 ⟨rfl,hE⟩;have ab:=hd (aq.o.trans hE);have ad:=hd (ak.o.trans hE);have a2:=hd (ae.o.ext hE (by simp));clear hE q2 ql ae au ak;have q3:=a2.o.cell;have ql:=a2.o.lt;cases htw:(l.take k).any (fun x=>eqS x.name xa)
     ·have al:=hd htw;clear htw;go_upto_region 11 with fail
      go_cut [27] (fun s wx=>s=.bool (!btw xb 1 262144)/\Hd (Ext [] w wx)/\Hd (Ext [] wq wx)/\Hd (Blk wx s1 45 #[.string xa,xb,.bool xc,.slice xd xf.length xe]))
      case first=>
       go_wp2_with fail
       all_goals
        go_meet
        refine⟨congrArg Value.bool ?_,ab,ad,a2⟩
        first|exact Ait _ _ _|exact Akf (by omega)
      case rest=>
       clear ab ad a2 q3 ql;obtain⟨rfl,ab,ad,a2⟩:=hcut;rename World=>w3
       have q3:=a2.o.cell;have ql:=a2.o.lt;cases hbz:btw xb 1 262144
       ·have a1:=hd (Age (ah:=[] ++ l.take k) (b:=⟨xa,xb,xc,xd,xe,xf⟩) af.o al.o hbz);have HF:=hd (show Dy l=9 by rw[aa.o,Fm a7.o a8.o (by rw[a1.o];omega),a1.o];rfl);clear hbz;go_wp2_with fail
        go_ret
        exact⟨Ae HF.o.symm,ab.o⟩
       ·have aw:=hd hbz;obtain⟨aK,aL⟩:=Bu.1 hbz;clear hbz;go_upto_region 13 with fail
        go_cut [36] (fun s wx=>s=.bool (decide (0<xf.length/\((xf.length:Int)≠xb\/xc=false)))/\Hd (Ext [] w3 wx))
        case first=>
         generalize aE:xf.length=m at *;clear aE;cases xc
         all_goals go_wp2_with fail
         all_goals
          go_meet
          refine⟨congrArg Value.bool ?_,hd (jF _ _)⟩
          first|(rw[Bool.eq_iff_iff];simp;omega)|(simp_all;done)|(simp_all;omega)|(simp;intros;omega)|(rw[Bool.eq_iff_iff];simp;intros;omega)
        case rest=>
         obtain⟨rfl,ai⟩:=hcut;rename World=>w4
         have ag:=hd (a2.o.ext ai.o (by simp));have am:=hd (ab.o.trans ai.o);have aH:=hd (ad.o.trans ai.o);clear q3 ql a2 ai ad;have q4:=ag.o.cell;have ql:=ag.o.lt;by_cases hq:0<xf.length/\((xf.length:Int)≠xb\/xc=false)
         ·have a1:=hd (Agf (ah:=[] ++ l.take k) (b:=⟨xa,xb,xc,xd,xe,xf⟩) af.o al.o aw.o hq);have HF:=hd (show Dy l=3 by rw[aa.o,Fm a7.o a8.o (by rw[a1.o];omega),a1.o];rfl);rw[decide_eq_true hq];clear hq;go_wp2_with fail
          go_ret
          exact⟨Ae HF.o.symm,am.o⟩
         ·have a1:=hd (Agg (ah:=[] ++ l.take k) (b:=⟨xa,xb,xc,xd,xe,xf⟩) af.o al.o aw.o hq);rw[decide_eq_false hq];clear hq;go_wp2_with fail
          refine(Wc xd xf.length xe xf 187 #[] (fun x=>!Dt x) w4 (aj.o.1.keep am.o) rfl ⟨Uc,fun i y hy w' hw'=>Aax y w'⟩).mono ?_
          rintro r w5 ⟨rfl,hE⟩;have ax:=hd (am.o.trans hE);have ay:=hd (ag.o.ext hE (by simp));clear hE q4 ql ag;have q5:=ay.o.cell;have ql:=ay.o.lt;cases had:xf.any (fun x=>!Dt x)
          ·have a6:=hd (a1.o.trans (ijn (by rw[had];simp)));clear had;go_wp2_with fail
           go_roundw
           case rel=>
            refine⟨k+1,z+xb,by go_num,by first|rfl|go_num,by omega,by omega,by rw[Int.natCast_add];omega,hd (by rw[Sf a7.o,HZ.o]),ax,hd fun j e hj he=>?_⟩
            rcases Nat.lt_or_ge j k with h1|h1
            ·exact a8.o j e h1 he
            ·have:j=k:=by omega
             subst this;have:=a7.o.symm.trans he;cases this
             exact a6.o
           case measure=>simp[intOf];omega
          ·have a6:=hd (a1.o.trans (ijp had));have HF:=hd (show Dy l=9 by rw[aa.o,Fm a7.o a8.o (by rw[a6.o];omega),a6.o];rfl);clear had;go_wp2_with fail
           go_ret
           exact⟨Ae HF.o.symm,ax.o⟩
     ·have a1:=hd (Agd (ah:=[] ++ l.take k) (b:=⟨xa,xb,xc,xd,xe,xf⟩) af.o htw);have HF:=hd (show Dy l=6 by rw[aa.o,Fm a7.o a8.o (by rw[a1.o];omega),a1.o];rfl);clear htw;go_wp2_with fail
      go_ret
      exact⟨Ae HF.o.symm,ab.o⟩
   ·have aC:k=n:=by omega
    subst aC;have HT:Hd (l.take k=l):=hd (List.take_of_length_le (by have:=HN.o;omega));have aD:=hd (Yl HN.o fun i s hi hs=>a8.o i s (by omega) hs);have az:=hd (aa.o.trans (ijp aD.o));rw[HT.o] at HZ;by_cases hz:262144<z
    ·have HF:=hd (az.o.trans (ijp (by rw[HZ.o];exact hz)));go_wp2_with fail
     go_ret
     exact⟨Ae HF.o.symm,HE.o⟩
    ·have HF:=hd (az.o.trans (ijn (by rw[HZ.o];exact hz)));go_wp2_with fail
     go_ret
     exact⟨Ae HF.o.symm,HE.o⟩
theorem Yw (x:Bf)(s:ByteArray)(bb:Nat)(w:World)(hc:w.cell? ⟨bb,0,none⟩=some (.string s)):Calls prog 76 #[bfV x,.pointer (some bb)] w (Fk (eqS x.name s) w):=by
 have hl:=jB w _ hc;simp only at hl;obtain⟨xa,xb,xc,xd,xe,xf⟩:=x;dsimp only[bfV];go_enter func76,ntmps76
 go_wp2_with fail
 go_ret
 exact⟨rfl,(jF _ _).alloc _⟩
theorem Yx (x:Int)(w:World):Calls prog 79 #[x] w (Fk (!Dt x) w):=by
 go_enter func79,ntmps79
 go_wp2_with fail
 refine(Ic x _).mono ?_
 rintro e w' ⟨rfl,rfl⟩;go_wp2_with fail
 go_ret
 exact⟨rfl,jF _ _⟩
theorem So:∀args w,(callFunc 76 args).run prog w=.ok (.enter 76 args) w:=by
 obtain⟨c,hc⟩:∃c,Tryz.f76.body=some c:=⟨_,rfl⟩;exact fun args w=>enters_of func76 (by kernel_rfl) hc args w
theorem Sp:∀args w,(callFunc 79 args).run prog w=.ok (.enter 79 args) w:=by
 obtain⟨c,hc⟩:∃c,Tryz.f79.body=some c:=⟨_,rfl⟩;exact fun args w=>enters_of func79 (by kernel_rfl) hc args w
set_option maxRecDepth 100000 in
theorem Xb (fb:Nat)(v1:Value)(bf:Int)(A:Option Addr)(n cap:Nat)(l:List Bf)(w:World)(hfb:Blk w fb 78 #[.slice A n cap,v1,bf])(hR:Ak w A 4 bfC l)(hS:∀b∈l,Aab w b)(hn:l.length=n)(hcp:n<=cap/\cap<=9223372036854775807) :
  Calls prog 34 #[.pointer (some fb)] w (My (Dy l) w):=by
 have aI:n<=1000000:=by have:=hR.1;omega
 have HR:=hd hR;have ak:=hd hfb;have qf:=hfb.cell;have al:=hfb.lt;clear hfb;have HS:=hd hS;have HN:=hd hn;have HV:Hd (Dy l=if 400<n then 2 else if Ih [] l=0 then(if 262144<Iu l then 2 else 0) else Ih [] l):=hd (by unfold Dy;rw[hn]);clear hR hS hn;by_cases h4:400<n
 ·have HF:=hd (HV.o.trans (ijp h4));go_enter func34,ntmps34
  go_wp2_with fail
  go_ret
  exact⟨Ae HF.o.symm,jF _ _⟩
 ·have aa:=hd (HV.o.trans (ijn h4));clear HV;go_enter func34,ntmps34
  go_wp2_with fail
  go_loopw [3,19] (fun t i wr=>∃(k:Nat) (z:Int),i=.int .i64 k/\t=.int .i64 z/\k<=n/\0<=z/\z<=k*262144/\Hd (Iu (l.take k)=z)/\Hd (Ext [] w wr)/\Hd (∀(j:Nat) (b:Bf),j<k->l[j]? = some b->Ki ([] ++ l.take j) b=0)) (fun _ i _=>(n-intOf i).toNat)
  case atStart=>exact⟨0,0,rfl,rfl,jQ _,Int.le_refl _,by simp,hd rfl,hd (jF _ _),hd fun j x hj=>absurd hj (by omega)⟩
  case round=>
   clear qf al;obtain⟨k,z,rfl,rfl,hk,aL,aM,HZ,HE,a8⟩:=hrel;rename World=>wq
   by_cases aQ:k<n
   ·have aC:=hd ((HR.o.keep HE.o).less k);obtain⟨b,x,rfl,hx,hc⟩:=(HR.o.keep HE.o).at (i:=k) (by have:=HN.o;omega);have a7:=hd hx;have ac:=ilm hx;have am:=hd (HS.o x ac);obtain⟨xa,xb,xc,xd,xe,xf⟩:=x;have g0:=hc 0 _ rfl;have g1:=hc 1 _ rfl;have g2:=hc 2 _ rfl;have g3:=hc 3 _ rfl;rw[Nat.add_zero] at g0;dsimp only at g0 g1 g2 g3;have aD:Hd ((l.take k).length=k):=hd (by rw[List.length_take];have:=HN.o;omega);have aq:=hd (HE.o.alloc (.cells #[.string xa,xb,.bool xc,.slice xd xf.length xe] 45));have au:=hd (jK wq 45 #[.string xa,xb,.bool xc,.slice xd xf.length xe]);have aw:=hd ((jF [] wq).alloc (.cells #[.string xa,xb,.bool xc,.slice xd xf.length xe] 45));have aJ:=am.o.1.1;clear hx hc ac;go_wp2_with fail
    generalize World.alloc wq _=w1 at *;generalize aP:wq.heap.size=s1 at *;refine(Vb xa w1 (by have:=am.o.2;simp only at this;omega)).mono ?_
    rintro r w2 ⟨rfl,hE⟩;have ad:=hd (aq.o.trans hE);have af:=hd (au.o.ext hE (by simp));have an:=hd (aw.o.trans hE);clear hE au aq aw;have q2:=af.o.cell;have ql:=af.o.lt;cases hnm:Cy xa
    ·have a1:=hd (Agc (ah:=[] ++ l.take k) (b:=⟨xa,xb,xc,xd,xe,xf⟩) hnm);have HF:=hd (show Dy l=5 by rw[aa.o,Fm a7.o a8.o (by rw[a1.o];omega),a1.o];rfl);clear hnm;go_wp2_with fail
     go_ret
     exact⟨Ae HF.o.symm,ad.o⟩
    ·have ag:=hd hnm;clear hnm;have qf:=(ak.o.ext ad.o (by simp)).cell;have al:=(ak.o.ext ad.o (by simp)).lt;go_wp2_with fail
     clear qf al;have aE:=hd (ak.o.ext ad.o (by simp));have ax:w2.cell? ⟨s1,0,none⟩=some (.string xa):=q2 0;refine(Afc (some b) k cap (l.take k) 76 #[.pointer (some s1)] (fun x=>eqS x.name xa) w2 (aC.o.keep an.o) aD.o ⟨So,fun i y hy w' hw'=>Yw y xa s1 w' (hw'.held ax (jH))⟩).mono ?_
     rintro r w3 ⟨rfl,hE⟩;have ab:=hd (ad.o.trans hE);have ae:=hd (an.o.trans hE);have a2:=hd (af.o.ext hE (by simp));clear hE q2 ql af ax an;have q3:=a2.o.cell;have ql:=a2.o.lt;cases htw:(l.take k).any (fun x=>eqS x.name xa)
     ·have ao:=hd htw;clear htw;go_upto_region 11 with fail
      go_cut [39] (fun s wx=>s=.bool (!btw xb 1 262144)/\Hd (Ext [] w wx)/\Hd (Ext [] wq wx)/\Hd (Blk wx s1 45 #[.string xa,xb,.bool xc,.slice xd xf.length xe]))
      case first=>
       go_wp2_with fail
       refine(Ay _ _ _ _).mono ?_
       rintro r w' ⟨rfl,rfl⟩;go_wp2_with fail
       go_meet
       exact⟨rfl,ab,ae,a2⟩
      case rest=>
       clear ab ae a2 q3 ql;obtain⟨rfl,ab,ae,a2⟩:=hcut;rename World=>w3
       have q3:=a2.o.cell;have ql:=a2.o.lt;cases hbz:btw xb 1 262144
       ·have a1:=hd (Age (ah:=[] ++ l.take k) (b:=⟨xa,xb,xc,xd,xe,xf⟩) ag.o ao.o hbz);have HF:=hd (show Dy l=9 by rw[aa.o,Fm a7.o a8.o (by rw[a1.o];omega),a1.o];rfl);clear hbz;go_wp2_with fail
        go_ret
        exact⟨Ae HF.o.symm,ab.o⟩
       ·have ay:=hd hbz;obtain⟨aN,aO⟩:=Bu.1 hbz;clear hbz;go_upto_region 13 with fail
        go_cut [44] (fun s wx=>s=.bool (decide (0<xf.length/\((xf.length:Int)≠xb\/xc=false)))/\Hd (Ext [] w3 wx))
        case first=>
         generalize aH:xf.length=m at *;clear aH;cases xc
         all_goals go_wp2_with fail
         all_goals
          go_meet
          refine⟨congrArg Value.bool ?_,hd (jF _ _)⟩
          first|(rw[Bool.eq_iff_iff];simp;omega)|(simp_all;done)|(simp_all;omega)|(simp;intros;omega)|(rw[Bool.eq_iff_iff];simp;intros;omega)
        case rest=>
         obtain⟨rfl,aj⟩:=hcut;rename World=>w4
         have ai:=hd (a2.o.ext aj.o (by simp));have ap:=hd (ab.o.trans aj.o);have aK:=hd (ae.o.trans aj.o);clear q3 ql a2 aj ae;have q4:=ai.o.cell;have ql:=ai.o.lt;by_cases hq:0<xf.length/\((xf.length:Int)≠xb\/xc=false)
         ·have a1:=hd (Agf (ah:=[] ++ l.take k) (b:=⟨xa,xb,xc,xd,xe,xf⟩) ag.o ao.o ay.o hq);have HF:=hd (show Dy l=3 by rw[aa.o,Fm a7.o a8.o (by rw[a1.o];omega),a1.o];rfl);rw[decide_eq_true hq];clear hq;go_wp2_with fail
          go_ret
          exact⟨Ae HF.o.symm,ap.o⟩
         ·have a1:=hd (Agg (ah:=[] ++ l.take k) (b:=⟨xa,xb,xc,xd,xe,xf⟩) ag.o ao.o ay.o hq);rw[decide_eq_false hq];clear hq;go_wp2_with fail
          refine(Wc xd xf.length xe xf 79 #[] (fun x=>!Dt x) w4 (am.o.1.keep ap.o) rfl ⟨Sp,fun i y hy w' hw'=>Yx y w'⟩).mono ?_
          rintro r w5 ⟨rfl,hE⟩;have az:=hd (ap.o.trans hE);have aA:=hd (ai.o.ext hE (by simp));clear hE q4 ql ai;have q5:=aA.o.cell;have ql:=aA.o.lt;cases had:xf.any (fun x=>!Dt x)
          ·have a6:=hd (a1.o.trans (ijn (by rw[had];simp)));clear had;go_wp2_with fail
           go_roundw
           case rel=>
            refine⟨k+1,z+xb,by go_num,by first|rfl|go_num,by omega,by omega,by rw[Int.natCast_add];omega,hd (by rw[Sf a7.o,HZ.o]),az,hd fun j e hj he=>?_⟩
            rcases Nat.lt_or_ge j k with h1|h1
            ·exact a8.o j e h1 he
            ·have:j=k:=by omega
             subst this;have:=a7.o.symm.trans he;cases this
             exact a6.o
           case measure=>simp[intOf];omega
          ·have a6:=hd (a1.o.trans (ijp had));have HF:=hd (show Dy l=9 by rw[aa.o,Fm a7.o a8.o (by rw[a6.o];omega),a6.o];rfl);clear had;go_wp2_with fail
           go_ret
           exact⟨Ae HF.o.symm,az.o⟩
     ·have a1:=hd (Agd (ah:=[] ++ l.take k) (b:=⟨xa,xb,xc,xd,xe,xf⟩) ag.o htw);have HF:=hd (show Dy l=6 by rw[aa.o,Fm a7.o a8.o (by rw[a1.o];omega),a1.o];rfl);clear htw;go_wp2_with fail
      go_ret
      exact⟨Ae HF.o.symm,ab.o⟩
   ·have aF:k=n:=by omega
    subst aF;have HT:Hd (l.take k=l):=hd (List.take_of_length_le (by have:=HN.o;omega));have aG:=hd (Yl HN.o fun i s hi hs=>a8.o i s (by omega) hs);have aB:=hd (aa.o.trans (ijp aG.o));rw[HT.o] at HZ;by_cases hz:262144<z
    ·have HF:=hd (aB.o.trans (ijp (by rw[HZ.o];exact hz)));go_wp2_with fail
     go_ret
     exact⟨Ae HF.o.symm,HE.o⟩
    ·have HF:=hd (aB.o.trans (ijn (by rw[HZ.o];exact hz)));go_wp2_with fail
     go_ret
     exact⟨Ae HF.o.symm,HE.o⟩
end Go.Proofs.YtfppibmloloakaaGreatDoor
