import Derived.Test.YtfppibmloloakaaGreatDoorK03
import Derived.Deep.DeepCutAuto
import Derived.Deep.CutBlock
namespace Go.Proofs.YtfppibmloloakaaGreatDoor
open Go.RowKit Go.Proofs.Tryz
set_option linter.all false
set_option maxHeartbeats 64000000
theorem Rz (vars:List ByteArray)(nb:Nat)(h:EH)(ks:List Ex) :
  (Bp h.k h.op<0->Bs vars nb (.mk h ks)=4)/\
  (0<=Bp h.k h.op->(Dc h&&decide ((ks.length:Int)=Bp h.k h.op))=false->Bs vars nb (.mk h ks)=3)/\
  (0<=Bp h.k h.op->Dc h=true->(ks.length:Int)=Bp h.k h.op->Fi h=false->Bs vars nb (.mk h ks)=9)/\
  (0<=Bp h.k h.op->Dc h=true->(ks.length:Int)=Bp h.k h.op->Fi h=true->((h.k=3\/h.k=4)/\¬(0<=h.buf/\h.buf<nb))->Bs vars nb (.mk h ks)=1)/\
  (0<=Bp h.k h.op->Dc h=true->(ks.length:Int)=Bp h.k h.op->Fi h=true->¬((h.k=3\/h.k=4)/\¬(0<=h.buf/\h.buf<nb))->Fj vars nb h ks.length=Cn vars h.at_):=by
 have e4:Bp h.k h.op<0->Fj vars nb h ks.length=4:=fun h1=>by unfold Fj;rw[ijp h1]
 have e3:0<=Bp h.k h.op->(Dc h&&decide ((ks.length:Int)=Bp h.k h.op))=false->Fj vars nb h ks.length=3:=fun h1 h2=>by unfold Fj Hi;rw[ijn (by omega),ijp h2]
 have e9:0<=Bp h.k h.op->Dc h=true->(ks.length:Int)=Bp h.k h.op->Fi h=false->Fj vars nb h ks.length=9:=fun h1 h2 h3 h4=>by unfold Fj Hi;rw[ijn (by omega),ijn (by simp[h2,h3]),ijp h4]
 have e1:0<=Bp h.k h.op->Dc h=true->(ks.length:Int)=Bp h.k h.op->Fi h=true->((h.k=3\/h.k=4)/\¬(0<=h.buf/\h.buf<nb))->Fj vars nb h ks.length=1:=fun h1 h2 h3 h4 h5=>by unfold Fj Hi Afa;rw[ijn (by omega),ijn (by simp[h2,h3]),ijn (by simp[h4]),ijp (decide_eq_true h5)]
 have ea:0<=Bp h.k h.op->Dc h=true->(ks.length:Int)=Bp h.k h.op->Fi h=true->¬((h.k=3\/h.k=4)/\¬(0<=h.buf/\h.buf<nb))->Fj vars nb h ks.length=Cn vars h.at_:=fun h1 h2 h3 h4 h5=>by unfold Fj Hi Afa;rw[ijn (by omega),ijn (by simp[h2,h3]),ijn (by simp[h4]),ijn (by rw[decide_eq_true_eq];exact h5)]
 have eq:Bs vars nb (.mk h ks)=if Fj vars nb h ks.length=0 then Ow vars nb ks else Fj vars nb h ks.length:=by rw[Bs]
 refine⟨fun h1=>?_,fun h1 h2=>?_,fun h1 h2 h3 h4=>?_,fun h1 h2 h3 h4 h5=>?_,ea⟩
 ·rw[eq,e4 h1];rfl
 ·rw[eq,e3 h1 h2];rfl
 ·rw[eq,e9 h1 h2 h3 h4];rfl
 ·rw[eq,e1 h1 h2 h3 h4 h5];rfl
theorem Sa {vars:List ByteArray}{nb:Nat}{h:EH}{ks:List Ex}(hx:Fj vars nb h ks.length≠0):Bs vars nb (.mk h ks)=Fj vars nb h ks.length:=by rw[Bs,ijn hx]
theorem Pc {vars:List ByteArray}{nb:Nat}{h:EH}{ks:List Ex}(hx:Fj vars nb h ks.length=0):Bs vars nb (.mk h ks)=Gb (Bs vars nb) ks:=by rw[Bs,ijp hx,Nz]
set_option maxRecDepth 100000 in
theorem Af9:∀(e:Ex) (vars:List ByteArray) (VA:Option Addr) (vn vc:Nat) (w:World) (cb:Nat) (bA:Option Addr) (nb bc:Nat) (bf:Int),Gu w e->Ak w VA 1 sC vars->vars.length=vn->Blk w cb 238 #[.slice bA nb bc,bf]->nb<=1000000->
  Calls prog 221 #[.pointer (some cb),exV e,.slice VA vn vc] w (My (Bs vars nb e) w):=by
 intro e
 refine Gs (P:=fun e=>∀(vars:List ByteArray) (VA:Option Addr) (vn vc:Nat) (w:World) (cb:Nat) (bA:Option Addr) (nb bc:Nat) (bf:Int),Gu w e->Ak w VA 1 sC vars->vars.length=vn->Blk w cb 238 #[.slice bA nb bc,bf]->nb<=1000000->
  Calls prog 221 #[.pointer (some cb),exV e,.slice VA vn vc] w (My (Bs vars nb e) w)) ?_ e
 intro h ks ih vars VA vn vc w cb bA nb bc bf hX hV hvn hC hnb;have HI:=hd ih;have HX:=hd hX;have HR:=hd hX.row;have HA:=hd hX.at
 have HV:=hd hV;have aw:=hd hvn;have HC:=hd hC;have aO:ks.length<=1000000:=hX.row.1;have aP:=hC.lt;clear ih hX hV hvn hC;show Calls _ _ #[_,Gt h ks.length,_] _ _
 generalize hn:ks.length=n at *;have HN:=hd hn;clear hn;have ay:=hd ((jF [] w).alloc (.cells (Dd h n) 41));have az:=hd (jK w 41 (Dd h n));have aI:=hd (fun W=>Aag h n W);have aA:=hd (fun W=>Tx h n W);have aJ:=hd (fun W=>Tt h n W);obtain⟨x0,x1,x2,x3,x4,x5,x6,⟨y0,y1,y2,y3⟩,x8,x9⟩:=h;dsimp only[Gt,Dd] at *;go_enter func221,ntmps221
 go_wp2_with fail
 generalize World.alloc w _=w1 at *;generalize hs:w.heap.size=s at *;refine(aI.o _).mono ?_
 rintro r w2 ⟨rfl,hE⟩;have aB:=hd (ay.o.trans hE);have ah:=hd (az.o.ext hE (by simp));clear hE az ay;have q2:=ah.o.cell;have ql:=ah.o.lt;have a8:=hd (Rz vars nb ⟨x0,x1,x2,x3,x4,x5,x6,⟨y0,y1,y2,y3⟩,x8,x9⟩ ks);generalize aH:Bp x0 x1=kn at aA⊢;have a2:=hd aH;clear aH;by_cases hk:kn<0
 ·have HF:=hd (a8.o.1 (by rw[a2.o];exact hk));have hk':decide (kn<0)=true:=by simpa using hk
  go_wp2_with fail
  go_ret
  exact⟨Ae HF.o.symm,aB.o⟩
 ·have hk':decide (kn<0)=false:=by simpa using hk
  have HK:Hd (¬kn<0):=hd hk;go_wp2_with fail
  refine(aA.o _ (by omega)).mono ?_
  rintro r w3 ⟨rfl,hE⟩;have aa:=hd (aB.o.trans hE);have ai:=hd (ah.o.ext hE (by simp));clear hE q2 ql hk hk';have q3:=ai.o.cell;have ql:=ai.o.lt;cases hp:Dc ⟨x0,x1,x2,x3,x4,x5,x6,⟨y0,y1,y2,y3⟩,x8,x9⟩ with
  | false=>
   have HF:=hd (a8.o.2.1 (by rw[a2.o];have:=HK.o;omega) (by rw[hp];rfl));clear hp;go_wp2_with fail
   go_ret
   exact⟨Ae HF.o.symm,aa.o⟩
  | true=>
   have ad:=hd hp;clear hp;by_cases a1:(n:Int)=kn
   ·have aj:Hd ((ks.length:Int)=Bp x0 x1):=hd (by rw[HN.o,a2.o,a1]);subst a1;go_wp2_with fail
    refine(aJ.o _).mono ?_
    rintro r w4 ⟨rfl,hE⟩;have ab:=hd (aa.o.trans hE);have ak:=hd (ai.o.ext hE (by simp));clear hE q3 ql;have q4:=ak.o.cell;have ql:=ak.o.lt;cases hr:Fi ⟨x0,x1,x2,x3,x4,x5,x6,⟨y0,y1,y2,y3⟩,x8,x9⟩ with
    | false=>
     have HF:=hd (a8.o.2.2.1 (by rw[a2.o];have:=HK.o;omega) ad.o aj.o hr);clear hr;go_wp2_with fail
     go_ret
     exact⟨Ae HF.o.symm,ab.o⟩
    | true=>
     have aC:=hd hr;clear hr;have aK:=(HC.o.ext ab.o (by simp)).cell;have al:=(HC.o.ext ab.o (by simp)).lt;go_wp2_with fail
     by_cases ag:(x0=3\/x0=4)/\¬(0<=x6/\x6<nb)
     ·have HF:=hd (a8.o.2.2.2.1 (by rw[a2.o];have:=HK.o;omega) ad.o aj.o aC.o ag);have am:(x0=3/\x6<0)\/(x0=4/\x6<0)\/(x0=3/\0<=x6/\(nb:Int)<=x6)\/(x0=4/\0<=x6/\(nb:Int)<=x6):=by omega
      clear ag;rcases am with⟨rfl,h6⟩|⟨rfl,h6⟩|⟨rfl,h5,h6⟩|⟨rfl,h5,h6⟩
      all_goals
       first|(have e6:decide (x6<0)=true:=(by simpa using h6))|(have e6:decide (x6<0)=false:=(by simpa using h5);have e7:decide ((nb:Int)<=x6)=true:=(by simpa using h6))
       go_quiet (fail)
       go_wp2_with fail
       go_ret
       exact⟨Ae HF.o.symm,ab.o.drewN _⟩
     ·have HH:=hd (a8.o.2.2.2.2 (by rw[a2.o];have:=HK.o;omega) ad.o aj.o aC.o ag);have am:(x0≠3/\x0≠4)\/(x0=3/\0<=x6/\x6<nb)\/(x0=4/\0<=x6/\x6<nb):=by omega
      clear ag;rcases am with⟨h3,h4⟩|⟨rfl,h5,h6⟩|⟨rfl,h5,h6⟩
      all_goals
       first
        | (
          have e3:(x0==3)=false:=(by simpa using h3);have e4:(x0==4)=false:=(by simpa using h4);clear h3 h4)
        | (
          have e6:decide (x6<0)=false:=(by simpa using h5);have e7:decide ((nb:Int)<=x6)=false:=(by simpa using h6))
       go_quiet (fail)
       have an:=hd (ab.o.drewN nq);have ao:=hd (ak.o.drewN nq);generalize World.drewN w4 nq=w5 at *;have q5:=ao.o.cell;have aL:=ao.o.lt;clear q4 ql aK al;go_wp2_with fail
       refine(No ⟨y0,y1,y2,y3⟩ VA vn vc vars _ (HA.o.keep an.o) (HV.o.keep an.o) aw.o).mono ?_
       rintro r w6 ⟨rfl,hE⟩;have aD:=hd (an.o.trans hE);have aE:=hd (ao.o.ext hE (by simp));clear hE q5 aL;have q6:=aE.o.cell;have aM:=aE.o.lt;generalize ac:Cn vars ⟨y0,y1,y2,y3⟩=ax;have ae:=hd (HH.o.trans ac);clear ac;by_cases a7:ax=0
       ·subst a7;have HG:=hd (Pc ae.o);have aF:=aD;clear ae HH;go_wp2_with fail
        clear q6 aM;go_loopw [66] (fun i wr=>∃k:Nat,i=.int .i64 k/\k<=n/\Hd (Ext [] w wr)/\Hd (∀(j:Nat) (e:Ex),j<k->ks[j]? = some e->Bs vars nb e=0)) (fun i _=>(n-intOf i).toNat)
        case atStart=>exact⟨0,rfl,jQ _,aF,hd fun j x hj=>absurd hj (by omega)⟩
        case round=>
         obtain⟨k,rfl,hk,HE,au⟩:=hrel;clear aF;rename World=>wq
         by_cases aQ:k<n
         ·obtain⟨b,x,rfl,hx,hc⟩:=(HR.o.keep HE.o).at (i:=k) (by have:=HN.o;omega);have aG:=hd hx;have a6:=ilm hx;have af:=hd (HE.o.alloc (.cells (An x) 41));have ap:=hd (HI.o x a6 vars VA vn vc (wq.alloc (.cells (An x) 41)) cb bA nb bc bf ((HX.o.kid a6).keep af.o) (HV.o.keep af.o) aw.o (HC.o.ext af.o (by simp)) hnb);have HW:=hd (fun j v hv=>hc j v (by rw[Ey];exact hv):∀(j:Nat) (v:Value),(An x).toList[j]? = some v->wq.cell? ⟨b,k*10+j,none⟩=some v);have aN:=hd (jK wq 41 (An x)).wide;rw[Cq] at ap;clear hx hc a6
          go_wp2_with (first
           | refine Ac rfl 41 _ rfl b (k*10) rfl (An x) HW.o _ underlying41 rfl Ch ?_
           | refine Ax rfl rfl 41 _ _ rfl rfl zEx (Kj _) (An x) rfl rfl Ch rfl (Fu x) ?_
           | refine Ac rfl 41 _ rfl wq.heap.size 0 rfl (An x) aN.o _ underlying41 rfl Ch ?_)
          refine ap.o.mono ?_
          rintro r w' ⟨rfl,hE⟩;have aa:=hd (af.o.trans hE);clear hE ap;generalize ac:Bs vars nb x=ax;have aq:=hd ac;clear ac;by_cases a7:ax=0
          ·subst a7;go_wp2_with fail
           go_roundw
           case rel=>
            refine⟨k+1,by go_num,by omega,aa,hd fun j e hj he=>?_⟩
            rcases Nat.lt_or_ge j k with h1|h1
            ·exact au.o j e h1 he
            ·have:j=k:=by omega
             subst this;have:=aG.o.symm.trans he;cases this
             exact aq.o
           case measure=>simp[intOf];omega
          ·have HF:=hd (HG.o.trans ((Jp aG.o au.o (by rw[aq.o];exact a7)).trans aq.o));have ha0':(ax==0)=false:=by simpa using a7
           go_wp2_with fail
           go_ret
           exact⟨Ae HF.o.symm,aa.o⟩
         ·have HF:=hd (HG.o.trans (Jq HN.o fun i e hi he=>au.o i e (by omega) he));go_wp2_with fail
          go_ret
          exact⟨Ae HF.o.symm,HE.o⟩
       ·have HF:=hd ((Sa (by rw[ae.o];exact a7)).trans ae.o);have ha0':(ax==0)=false:=by simpa using a7
        go_wp2_with fail
        go_ret
        exact⟨Ae HF.o.symm,aD.o⟩
   ·have HF:=hd (a8.o.2.1 (by rw[a2.o];have:=HK.o;omega) (by rw[ad.o,HN.o,a2.o];simpa using a1));have hlen':((n:Int)==kn)=false:=by simpa using a1
    go_wp2_with fail
    go_ret
    exact⟨Ae HF.o.symm,aa.o⟩
theorem Cf (h:SH)(n:Nat)(x:EH)(m:Nat):(Ai h n x m)[0]? = some (.int .i64 h.k)/\(Ai h n x m)[1]? = some (.string h.var)/\(Ai h n x m)[2]? = some (.int .i64 h.lo)/\(Ai h n x m)[3]? = some (.int .i64 h.hi)/\(Ai h n x m)[4]? = some (.int .i64 h.step)/\(Ai h n x m)[5]? = some (.bool h.vec)/\(Ai h n x m)[6]? = some (.slice h.cA h.conds.length h.cc)/\(Ai h n x m)[7]? = some (.slice h.A n h.cap)/\(Ai h n x m)[8]? = some (.int .i64 h.buf)/\(Ai h n x m)[9]? = some (.int .i64 h.at_.base)/\(Ai h n x m)[10]? = some (.slice h.at_.A h.at_.ts.length h.at_.cap):=
 ⟨rfl,rfl,rfl,rfl,rfl,rfl,rfl,rfl,rfl,rfl,rfl⟩
def Ke (x:EH)(m:Nat):Array Value:=#[.int .i64 x.k,.int .i64 x.op,.int .i64 x.lo,.int .i64 x.hi,.int .i64 x.n,.int .i64 x.m,.int .i64 x.buf,.int .i64 x.at_.base,.slice x.at_.A x.at_.ts.length x.at_.cap,.slice x.A m x.cap]
set_option maxRecDepth 100000 in
theorem Yh (h:SH)(n:Nat)(w:World):Calls prog 218 #[Ez h n] w fun e w'=>e=.returned (.bool (decide (h.k≠3)))/\Ext [] w w':=by
 obtain⟨a0,-⟩:=Cf h n h.val.h h.val.ks.length;unfold Ez;generalize Ai h n h.val.h h.val.ks.length=arr at *;go_enter func218,ntmps218
 go_wp2_with fail
 go_ret
 exact⟨Aa (by by_cases h:h.k=3<;>simp[h]),(jF _ _).alloc _⟩
set_option maxRecDepth 100000 in
theorem Aau (h:SH)(n:Nat)(w:World):Calls prog 216 #[Ez h n] w fun e w'=>e=.returned (.bool (Ga h n))/\Ext [] w w':=by
 obtain⟨a0,a1,a2,a3,a4,a5,a6,a7,a8,a9,aa⟩:=Cf h n h.val.h h.val.ks.length
 have HW:Hd (∀W,Blk W w.heap.size 43 (Ai h n h.val.h h.val.ks.length)->∀(j:Nat) (v:Value),(Ke h.val.h h.val.ks.length).toList[j]? = some v->W.cell? ⟨w.heap.size,11+j,none⟩=some v):=hd fun W hW j v hv=>by
  rw[hW.cell]
  have:(Ai h n h.val.h h.val.ks.length)[11+j]? = (Ke h.val.h h.val.ks.length)[j]?:=by
   rcases Nat.lt_or_ge j 10 with hj|hj
   ·have:j=0\/j=1\/j=2\/j=3\/j=4\/j=5\/j=6\/j=7\/j=8\/j=9:=by omega
    rcases this with rfl|rfl|rfl|rfl|rfl|rfl|rfl|rfl|rfl|rfl<;>rfl
   ·rw[Array.getElem?_eq_none (by simp[Ai];omega),Array.getElem?_eq_none (by simp[Ke];omega)]
  rw[this];simpa using hv
 have HB:=hd (jK w 43 (Ai h n h.val.h h.val.ks.length));unfold Ez;generalize Ai h n h.val.h h.val.ks.length=arr at *;go_enter func216,ntmps216
 go_upto_region 1 with fail
 go_cut [3] (fun s wx=>s=.bool (Gr h)/\wx=w.alloc (.cells arr 43))
 case first=>
  go_wp2_with fail
  all_goals
   go_meet
   refine⟨?_,rfl⟩
   simp_all [Gr,eqS]
 case rest=>
  obtain⟨rfl,rfl⟩:=hcut;have ad:=hd ((jF [] w).alloc (.cells arr 43));generalize World.alloc w _=w1 at *;generalize w.heap.size=s0 at *;have q1:=HB.o.cell;have ql:=HB.o.lt;go_upto_region 2 with fail
  go_cut [4] (fun s wx=>s=.bool (Di h)/\Hd (Ext [] w wx)/\Hd (Blk wx s0 43 arr))
  case first=>
   by_cases hb:h.buf=0
   ·have ae:=hd hb;go_wp2_with fail
    refine(Lp _ _ _ _ _).mono ?_
    rintro e w2 ⟨rfl,hE⟩;have ac:=hd (ad.o.trans hE);have ab:=hd (HB.o.ext hE (by simp));clear hE q1 ql;have q2:=ab.o.cell;have ql:=ab.o.lt;have af:=hd (HW.o w2 ab.o);generalize hz:(decide (h.at_.base=0)&&decide (h.at_.ts.length=0))=z;have HZ:Hd (El h.at_=z):=hd hz;clear hz;cases z
    ·have HF:Hd (Di h=true):=hd (by unfold Di;rw[HZ.o];simp);go_wp2_with fail
     go_meet
     exact⟨by rw[HF.o],ac,ab⟩
    ·go_wp2_with (
      refine Gd rfl 41 _ rfl s0 11 rfl (Ke h.val.h h.val.ks.length) af.o _ underlying41 rfl Ch ?_)
     refine(Oe h.val.h h.val.ks.length _).mono ?_
     rintro e w3 ⟨rfl,hE⟩;have ag:=hd (ac.o.trans hE);have ah:=hd (ab.o.ext hE (by simp));clear hE q2 ql;have HF:Hd (Di h = !Lb h.val.h h.val.ks.length):=hd (by unfold Di;rw[HZ.o,ae.o];simp);generalize Lb h.val.h h.val.ks.length=z at *;cases z
     all_goals
      go_wp2_with fail
      go_meet
      exact⟨by rw[HF.o];rfl,ag,ah⟩
   ·have HF:Hd (Di h=true):=hd (by unfold Di;simp[hb]);have hb':(h.buf==0)=false:=by simpa using hb
    go_wp2_with fail
    go_meet
    exact⟨by rw[HF.o],ad,HB⟩
  case rest=>
   obtain⟨rfl,ac,ab⟩:=hcut;rename World=>w2
   clear q1 ql HB ad;have q2:=ab.o.cell;have ql:=ab.o.lt;have HU:Hd (∀k m,h.k=k->h.conds.length=m->Ga h n=if k=1 then decide (0<m)||Di h else if k=2 then Gr h||Di h else Gr h||decide (0<m)||decide (0<n)):=hd fun k m hk hm=>by subst hk;subst hm;rfl
   generalize Di h=sF at *;generalize Gr h=lF at *;generalize hk:h.k=k at *;generalize hm:h.conds.length=m at *;have HV:=hd (HU.o k m rfl rfl);clear HU hk hm;have em:decide (0<(m:Int))=decide (0<m):=decide_eq_decide.2 (by omega);have en:decide (0<(n:Int))=decide (0<n):=decide_eq_decide.2 (by omega);by_cases k1:k=1
   ·subst k1;rw[ijp rfl] at HV;clear em en;cases sF
    all_goals go_wp2_with fail
    all_goals (go_ret;refine⟨Aa ?_,ac.o⟩;rw[HV.o];first|(simp_all;done)|(simp_all;omega))
   ·rw[ijn k1] at HV;have k1':(k==1)=false:=by simpa using k1
    by_cases k2:k=2
    ·rw[ijp k2] at HV;subst k2;cases lF<;>cases sF
     all_goals go_wp2_with fail
     all_goals (go_ret;refine⟨Aa ?_,ac.o⟩;rw[HV.o];first|(simp_all;done)|(simp_all;omega))
    ·rw[ijn k2] at HV;have k2':(k==2)=false:=by simpa using k2
     clear k1 k2;clear em en;cases lF
     all_goals go_wp2_with fail
     all_goals (go_ret;refine⟨Aa ?_,ac.o⟩;rw[HV.o];first|(simp_all;done)|(simp_all;omega))
end Go.Proofs.YtfppibmloloakaaGreatDoor
