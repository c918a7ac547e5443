import Derived.Test.YtfppibmloloakaaGreatDoorK13
import Derived.Test.YtfppibmloloakaaGreatDoorK12
import Derived.Test.YtfppibmloloakaaGreatDoorK04
namespace Go.Proofs.YtfppibmloloakaaGreatDoor
open Go.RowKit Go.Proofs.Tryz
set_option linter.all false
set_option maxHeartbeats 64000000
theorem Agi (k op:Int):0<=Bp k op ↔ btw k 1 5=true/\(k=5->btw op 4 15=true):=by
 constructor
 ·intro h;have hk:=Kq h;refine⟨Bu.2 (by omega),fun h5=>?_⟩
  subst h5;have e:Bp 5 op=opN op:=by simp[Bp]
  rw[e] at h;unfold opN at h;refine Bu.2 ?_
  split at h
  ·omega
  split at h
  ·rename_i hb
   have:=Bu.1 hb;omega
  split at h
  ·rename_i hb
   have:=Bu.1 hb;omega
  ·omega
 ·rintro⟨h1,h2⟩;have:=Bu.1 h1;have hk:k=1\/k=2\/k=3\/k=4\/k=5:=by omega
  rcases hk with rfl|rfl|rfl|rfl|rfl
  ·simp[Bp]
  ·simp[Bp]
  ·simp[Bp]
  ·simp[Bp]
  ·have h3:=Bu.1 (h2 rfl);have e:Bp 5 op=opN op:=by simp[Bp]
   rw[e];unfold opN;split
   ·omega
   split
   ·omega
   split
   ·omega
   ·rename_i h4 h5 h6
    have h7:¬(4<=op/\op<=10):=fun h=>h5 (Bu.2 h)
    have h8:¬(11<=op/\op<=14):=fun h=>h6 (Bu.2 h)
    omega
attribute [local irreducible] Bj
set_option maxRecDepth 100000 in
theorem Ad3:∀(e:Ex) (vars:List ByteArray) (VA:Option Addr) (vn vc:Nat) (w:World) (cb:Nat) (bA:Option Addr) (nb bc:Nat) (v1:Value) (bf:Int),Gu w e->Ak w VA 1 sC vars->vars.length=vn->Blk w cb 78 #[.slice bA nb bc,v1,bf]->nb<=1000000->
  Calls prog 129 #[.pointer (some cb),exV e,.slice VA vn vc] w (My (Bs vars nb e) w):=by
 intro e
 refine Gs (P:=fun e=>∀(vars:List ByteArray) (VA:Option Addr) (vn vc:Nat) (w:World) (cb:Nat) (bA:Option Addr) (nb bc:Nat) (v1:Value) (bf:Int),Gu w e->Ak w VA 1 sC vars->vars.length=vn->Blk w cb 78 #[.slice bA nb bc,v1,bf]->nb<=1000000->
  Calls prog 129 #[.pointer (some cb),exV e,.slice VA vn vc] w (My (Bs vars nb e) w)) ?_ e
 intro h ks ih vars VA vn vc w cb bA nb bc v1 bf hX hV hvn hC hnb;have HI:=hd ih;have HX:=hd hX;have HR:=hd hX.row;have HA:=hd hX.at
 have HV:=hd hV;have aE:=hd hvn;have HC:=hd hC;have b1:ks.length<=1000000:=hX.row.1;have b2:=hC.lt;clear ih hX hV hvn hC;show Calls _ _ #[_,Gt h ks.length,_] _ _
 generalize hn:ks.length=n at *;have HN:=hd hn;clear hn;have aR:=hd ((jF [] w).alloc (.cells (Dd h n) 41));have aS:=hd (jK w 41 (Dd h n));have aW:=hd (fun W hk=>Ww h n W hk);have aX:=hd (fun W hk=>Si h n W hk);obtain⟨x0,x1,x2,x3,x4,x5,x6,⟨y0,y1,y2,y3⟩,x8,x9⟩:=h;dsimp only[Gt,Dd] at *;have ao:=hd (Rz vars nb ⟨x0,x1,x2,x3,x4,x5,x6,⟨y0,y1,y2,y3⟩,x8,x9⟩ ks);have aF:Hd (0<=Bp x0 x1 ↔ btw x0 1 5=true/\(x0=5->btw x1 4 15=true)):=hd (Agi x0 x1);have aY:Hd (Hi ⟨x0,x1,x2,x3,x4,x5,x6,⟨y0,y1,y2,y3⟩,x8,x9⟩ n=(Dc ⟨x0,x1,x2,x3,x4,x5,x6,⟨y0,y1,y2,y3⟩,x8,x9⟩&&decide ((n:Int)=Bp x0 x1))):=hd rfl;go_enter func129,ntmps129
 go_upto_region 1 with fail
 generalize World.alloc w _=w2 at *;generalize hs:w.heap.size=s at *;have aI:=aR;have aJ:=aS;clear aR aS;have q2:=aJ.o.cell;have ql:=aJ.o.lt
 have ai:(Bp x0 x1<0/\(btw x0 1 5=false\/(btw x0 1 5=true/\x0=5/\btw x1 4 15=false)))\/(¬Bp x0 x1<0/\btw x0 1 5=true/\(x0≠5\/(x0=5/\btw x1 4 15=true))):=by
  cases a8:btw x0 1 5
  ·left;refine⟨?_,.inl rfl⟩
   have:=fun h=>(aF.o.1 h).1
   rw[a8] at this;by_cases h:0<=Bp x0 x1
   ·exact absurd (this h) (by simp)
   ·omega
  ·by_cases h5:x0=5
   ·cases am:btw x1 4 15
    ·left;refine⟨?_,.inr ⟨rfl,h5,rfl⟩⟩
     by_cases h:0<=Bp x0 x1
     ·have:=(aF.o.1 h).2 h5;rw[am] at this;cases this
     ·omega
    ·right;exact⟨by have:=aF.o.2 ⟨a8,fun _=>am⟩;omega,rfl,.inr ⟨h5,rfl⟩⟩
   ·right;exact⟨by have:=aF.o.2 ⟨a8,fun h=>absurd h h5⟩;omega,rfl,.inl h5⟩
 rcases ai with⟨hk,aQ⟩|⟨hk,a8,aD⟩
 ·have HF:=hd (ao.o.1 hk);clear hk;rcases aQ with a8|⟨a8,rfl,am⟩
  ·go_wp2_with fail
   refine(Ay _ _ _ _).mono ?_
   rintro r w' ⟨rfl,rfl⟩;rw[a8];clear a8;go_wp2_with fail
   go_ret
   exact⟨Ae HF.o.symm,aI.o⟩
  ·go_wp2_with fail
   refine(Ay _ _ _ _).mono ?_
   rintro r w' ⟨rfl,rfl⟩;rw[a8];clear a8;go_wp2_with fail
   refine(Ay _ _ _ _).mono ?_
   rintro r w' ⟨rfl,rfl⟩;rw[am];go_wp2_with fail
   go_ret
   exact⟨Ae HF.o.symm,aI.o⟩
 ·have HK:Hd (¬Bp x0 x1<0):=hd hk;have aK:=hd a8;clear hk a8;go_cut [11] (fun s wx=>s=.bool false/\wx=w2)
  case first=>
   rcases aD with h5|⟨rfl,am⟩
   ·have e5:(x0==5)=false:=by simpa using h5
    clear h5;go_wp2_with fail
    refine(Ay _ _ _ _).mono ?_
    rintro r w' ⟨rfl,rfl⟩;rw[aK.o];go_wp2_with fail
    go_meet
    exact⟨rfl,rfl⟩
   ·have HB2':=hd am;clear am;go_wp2_with fail
    refine(Ay _ _ _ _).mono ?_
    rintro r w' ⟨rfl,rfl⟩;rw[aK.o];go_wp2_with fail
    refine(Ay _ _ _ _).mono ?_
    rintro r w' ⟨rfl,rfl⟩;rw[HB2'.o];go_wp2_with fail
    go_meet
    exact⟨rfl,rfl⟩
  case rest=>
  obtain⟨rfl,rfl⟩:=hcut;go_wp2_with fail
  refine(aW.o _ (by have:=HK.o;omega)).mono ?_
  rintro r w3 ⟨rfl,hE⟩;have ac:=hd (aI.o.trans hE);have aL:=hd (aJ.o.ext hE (by simp));clear hE q2 ql;have q3:=aL.o.cell;have ql:=aL.o.lt;rw[aY.o];generalize aU:Bp x0 x1=kn at *;have b3:=hd aU;clear aU;cases hp:Dc ⟨x0,x1,x2,x3,x4,x5,x6,⟨y0,y1,y2,y3⟩,x8,x9⟩ with
  | false=>
   have HF:=hd (ao.o.2.1 (by have:=HK.o;omega) (by rw[hp];rfl));clear hp;go_wp2_with fail
   go_ret
   exact⟨Ae HF.o.symm,ac.o⟩
  | true=>
   have aG:=hd hp;clear hp;by_cases ab:(n:Int)=kn
   ·have aM:Hd ((ks.length:Int)=kn):=hd (by rw[HN.o,ab]);have aH:decide ((n:Int)=kn)=true:=by simpa using ab
    rw[aH];clear ab aH;go_wp2_with fail
    refine(aX.o _ (by unfold Aa6;have h9:=Bu.1 aK.o;simp only;omega)).mono ?_
    rintro r w4 ⟨rfl,hE⟩;have ap:=hd (ac.o.trans hE);have a1:=hd (aL.o.ext hE (by simp));clear hE q3 ql;have q4:=a1.o.cell;have ql:=a1.o.lt;cases hr:Fi ⟨x0,x1,x2,x3,x4,x5,x6,⟨y0,y1,y2,y3⟩,x8,x9⟩ with
    | false=>
     have HF:=hd (ao.o.2.2.1 (by have:=HK.o;omega) aG.o aM.o hr);clear hr;go_wp2_with fail
     go_ret
     exact⟨Ae HF.o.symm,ap.o⟩
    | true=>
     have aT:=hd hr;clear hr;go_upto_region 7 with fail
     clear q4 ql;have a7:=hd (HC.o.ext ap.o (by simp));by_cases an:(x0=3\/x0=4)/\¬(0<=x6/\x6<nb)
     ·have HF:=hd (ao.o.2.2.2.1 (by have:=HK.o;omega) aG.o aM.o aT.o an);have ah:(decide (x0=3)||decide (x0=4))=true:=by simp;exact an.1
      have aq:btw x6 0 ((nb:Int)-1)=false:=by
       cases hb:btw x6 0 ((nb:Int)-1)
       ·rfl
       ·have:=Bu.1 hb;exact absurd ⟨this.1,by omega⟩ an.2
      have au:=hd ah;have aN:=hd aq;clear an ah aq;refine rgE 13 [(2,Cx (.bool true))] ?_
      simp only[TK]
      repeat(refine dE (fun wr nr hJ=>by(have q:=(a1.o.ext hJ (by simp)).cell;have ql:=(a1.o.ext hJ (by simp)).lt;have qc:=(a7.o.ext hJ (by simp)).cell;have aw:=(a7.o.ext hJ (by simp)).lt);clear hJ;exact CL) ?_;simp only[PT])
      refine Gh rfl rfl ?_ ?_
      ·refine EC fun wr nr hJ=>?_
       exact(Pd x0 wr).mono (by rintro e w' ⟨rfl,rfl⟩;exact⟨by rw[au.o],jF _ _⟩)
      simp only[PT]
      repeat(refine dE (fun wr nr hJ=>by(have q:=(a1.o.ext hJ (by simp)).cell;have ql:=(a1.o.ext hJ (by simp)).lt;have qc:=(a7.o.ext hJ (by simp)).cell;have aw:=(a7.o.ext hJ (by simp)).lt);clear hJ;exact CL) ?_;simp only[PT])
      refine Aj (fun w5 hJ hF=>?_)
      have ad:=hd (ap.o.trans hJ);clear hF hJ;go_wp2_with fail
      refine(Ay _ _ _ _).mono ?_
      rintro r w' ⟨rfl,rfl⟩;rw[aN.o];go_wp2_with fail
      go_ret
      exact⟨Ae HF.o.symm,ad.o⟩
     ·have HH:=hd (ao.o.2.2.2.2 (by have:=HK.o;omega) aG.o aM.o aT.o an)
      have aZ:(decide (x0=3)||decide (x0=4))=false\/((decide (x0=3)||decide (x0=4))=true/\btw x6 0 ((nb:Int)-1)=true):=by
       by_cases aV:x0=3\/x0=4
       ·right
        refine⟨by simp;exact aV,Bu.2 ?_⟩
        by_cases h9:0<=x6/\x6<nb
        ·omega
        ·exact absurd ⟨aV,h9⟩ an
       ·left;simp;omega
      clear an;rcases aZ with ah|⟨ah,aq⟩
      ·have au:=hd ah;clear ah;refine rgE 13 [(2,Cx (.bool false))] ?_
       simp only[TK]
       repeat(refine dE (fun wr nr hJ=>by(have q:=(a1.o.ext hJ (by simp)).cell;have ql:=(a1.o.ext hJ (by simp)).lt;have qc:=(a7.o.ext hJ (by simp)).cell;have aw:=(a7.o.ext hJ (by simp)).lt);clear hJ;exact CL) ?_;simp only[PT])
       refine Gh rfl rfl ?_ ?_
       ·refine EC fun wr nr hJ=>?_
        exact(Pd x0 wr).mono (by rintro e w' ⟨rfl,rfl⟩;exact⟨by rw[au.o],jF _ _⟩)
       simp only[PT]
       repeat(refine dE (fun wr nr hJ=>by(have q:=(a1.o.ext hJ (by simp)).cell;have ql:=(a1.o.ext hJ (by simp)).lt;have qc:=(a7.o.ext hJ (by simp)).cell;have aw:=(a7.o.ext hJ (by simp)).lt);clear hJ;exact CL) ?_;simp only[PT])
       iterate 9
        refine Im rfl ?_
        simp only[PT]
       refine Aj (fun w5 hJ hF=>?_)
       have ad:=hd (ap.o.trans hJ);have ae:=hd (a1.o.ext hJ (by simp));clear hF hJ;have q5:=ae.o.cell;have ay:=ae.o.lt;go_wp2_with fail
       refine(Ja ⟨y0,y1,y2,y3⟩ VA vn vc vars _ (HA.o.keep ad.o) (HV.o.keep ad.o) aE.o).mono ?_
       rintro r w6 ⟨rfl,hE⟩;have az:=hd (ad.o.trans hE);have aA:=hd (ae.o.ext hE (by simp));clear hE q5 ay;have q6:=aA.o.cell;have aO:=aA.o.lt;generalize aa:Cn vars ⟨y0,y1,y2,y3⟩=ax;have af:=hd (HH.o.trans aa);clear aa;by_cases a6:ax=0
       ·subst a6;have HG:=hd (Pc af.o);have aB:=az;clear af HH;go_wp2_with fail
        clear q6 aO;go_loopw [62] (fun i wr=>∃k:Nat,i=.int .i64 k/\k<=n/\Hd (Ext [] w wr)/\Hd (∀(j:Nat) (e:Ex),j<k->ks[j]? = some e->Bs vars nb e=0)) (fun i _=>(n-intOf i).toNat)
        case atStart=>exact⟨0,rfl,jQ _,aB,hd fun j x hj=>absurd hj (by omega)⟩
        case round=>
         obtain⟨k,rfl,hk,HE,al⟩:=hrel;clear aB;rename World=>wq
         by_cases b0:k<n
         ·obtain⟨b,x,rfl,hx,hc⟩:=(HR.o.keep HE.o).at (i:=k) (by have:=HN.o;omega);have aC:=hd hx;have a2:=ilm hx;have ag:=hd (HE.o.alloc (.cells (An x) 41));have aj:=hd (HI.o x a2 vars VA vn vc (wq.alloc (.cells (An x) 41)) cb bA nb bc v1 bf ((HX.o.kid a2).keep ag.o) (HV.o.keep ag.o) aE.o (HC.o.ext ag.o (by simp)) hnb);have HW:=hd (fun j v hv=>hc j v (by rw[Ey];exact hv):∀(j:Nat) (v:Value),(An x).toList[j]? = some v->wq.cell? ⟨b,k*10+j,none⟩=some v);have aP:=hd (jK wq 41 (An x)).wide;rw[Cq] at aj;clear hx hc a2
          go_wp2_with (first
           | refine Ac rfl 41 _ rfl b (k*10) rfl (An x) HW.o _ underlying41 rfl Ch ?_
           | refine Ax rfl rfl 41 _ _ rfl rfl zEx (Kj _) (An x) rfl rfl Ch rfl (Fu x) ?_
           | refine Ac rfl 41 _ rfl wq.heap.size 0 rfl (An x) aP.o _ underlying41 rfl Ch ?_)
          refine aj.o.mono ?_
          rintro r w' ⟨rfl,hE⟩;have ac:=hd (ag.o.trans hE);clear hE aj;generalize aa:Bs vars nb x=ax;have ak:=hd aa;clear aa;by_cases a6:ax=0
          ·subst a6;go_wp2_with fail
           go_roundw
           case rel=>
            refine⟨k+1,by go_num,by omega,ac,hd fun j e hj he=>?_⟩
            rcases Nat.lt_or_ge j k with h1|h1
            ·exact al.o j e h1 he
            ·have:j=k:=by omega
             subst this;have:=aC.o.symm.trans he;cases this
             exact ak.o
           case measure=>simp[intOf];omega
          ·have HF:=hd (HG.o.trans ((Jp aC.o al.o (by rw[ak.o];exact a6)).trans ak.o));have ha0':(ax==0)=false:=by simpa using a6
           go_wp2_with fail
           go_ret
           exact⟨Ae HF.o.symm,ac.o⟩
         ·have HF:=hd (HG.o.trans (Jq HN.o fun i e hi he=>al.o i e (by omega) he));go_wp2_with fail
          go_ret
          exact⟨Ae HF.o.symm,HE.o⟩
       ·have HF:=hd ((Sa (by rw[af.o];exact a6)).trans af.o);have ha0':(ax==0)=false:=by simpa using a6
        go_wp2_with fail
        go_ret
        exact⟨Ae HF.o.symm,az.o⟩
      ·have au:=hd ah;have aN:=hd aq;clear ah aq;refine rgE 13 [(2,Cx (.bool true))] ?_
       simp only[TK]
       repeat(refine dE (fun wr nr hJ=>by(have q:=(a1.o.ext hJ (by simp)).cell;have ql:=(a1.o.ext hJ (by simp)).lt;have qc:=(a7.o.ext hJ (by simp)).cell;have aw:=(a7.o.ext hJ (by simp)).lt);clear hJ;exact CL) ?_;simp only[PT])
       refine Gh rfl rfl ?_ ?_
       ·refine EC fun wr nr hJ=>?_
        exact(Pd x0 wr).mono (by rintro e w' ⟨rfl,rfl⟩;exact⟨by rw[au.o],jF _ _⟩)
       simp only[PT]
       repeat(refine dE (fun wr nr hJ=>by(have q:=(a1.o.ext hJ (by simp)).cell;have ql:=(a1.o.ext hJ (by simp)).lt;have qc:=(a7.o.ext hJ (by simp)).cell;have aw:=(a7.o.ext hJ (by simp)).lt);clear hJ;exact CL) ?_;simp only[PT])
       refine Aj (fun w5 hJ hF=>?_)
       have ad:=hd (ap.o.trans hJ);have ae:=hd (a1.o.ext hJ (by simp));clear hF hJ;have q5:=ae.o.cell;have ay:=ae.o.lt;go_wp2_with fail
       refine(Ay _ _ _ _).mono ?_
       rintro r w' ⟨rfl,rfl⟩;rw[aN.o];clear q5 ay;have q5:=ae.o.cell;have ay:=ae.o.lt;go_wp2_with fail
       refine(Ja ⟨y0,y1,y2,y3⟩ VA vn vc vars _ (HA.o.keep ad.o) (HV.o.keep ad.o) aE.o).mono ?_
       rintro r w6 ⟨rfl,hE⟩;have az:=hd (ad.o.trans hE);have aA:=hd (ae.o.ext hE (by simp));clear hE q5 ay;have q6:=aA.o.cell;have aO:=aA.o.lt;generalize aa:Cn vars ⟨y0,y1,y2,y3⟩=ax;have af:=hd (HH.o.trans aa);clear aa;by_cases a6:ax=0
       ·subst a6;have HG:=hd (Pc af.o);have aB:=az;clear af HH;go_wp2_with fail
        clear q6 aO;go_loopw [62] (fun i wr=>∃k:Nat,i=.int .i64 k/\k<=n/\Hd (Ext [] w wr)/\Hd (∀(j:Nat) (e:Ex),j<k->ks[j]? = some e->Bs vars nb e=0)) (fun i _=>(n-intOf i).toNat)
        case atStart=>exact⟨0,rfl,jQ _,aB,hd fun j x hj=>absurd hj (by omega)⟩
        case round=>
         obtain⟨k,rfl,hk,HE,al⟩:=hrel;clear aB;rename World=>wq
         by_cases b0:k<n
         ·obtain⟨b,x,rfl,hx,hc⟩:=(HR.o.keep HE.o).at (i:=k) (by have:=HN.o;omega);have aC:=hd hx;have a2:=ilm hx;have ag:=hd (HE.o.alloc (.cells (An x) 41));have aj:=hd (HI.o x a2 vars VA vn vc (wq.alloc (.cells (An x) 41)) cb bA nb bc v1 bf ((HX.o.kid a2).keep ag.o) (HV.o.keep ag.o) aE.o (HC.o.ext ag.o (by simp)) hnb);have HW:=hd (fun j v hv=>hc j v (by rw[Ey];exact hv):∀(j:Nat) (v:Value),(An x).toList[j]? = some v->wq.cell? ⟨b,k*10+j,none⟩=some v);have aP:=hd (jK wq 41 (An x)).wide;rw[Cq] at aj;clear hx hc a2
          go_wp2_with (first
           | refine Ac rfl 41 _ rfl b (k*10) rfl (An x) HW.o _ underlying41 rfl Ch ?_
           | refine Ax rfl rfl 41 _ _ rfl rfl zEx (Kj _) (An x) rfl rfl Ch rfl (Fu x) ?_
           | refine Ac rfl 41 _ rfl wq.heap.size 0 rfl (An x) aP.o _ underlying41 rfl Ch ?_)
          refine aj.o.mono ?_
          rintro r w' ⟨rfl,hE⟩;have ac:=hd (ag.o.trans hE);clear hE aj;generalize aa:Bs vars nb x=ax;have ak:=hd aa;clear aa;by_cases a6:ax=0
          ·subst a6;go_wp2_with fail
           go_roundw
           case rel=>
            refine⟨k+1,by go_num,by omega,ac,hd fun j e hj he=>?_⟩
            rcases Nat.lt_or_ge j k with h1|h1
            ·exact al.o j e h1 he
            ·have:j=k:=by omega
             subst this;have:=aC.o.symm.trans he;cases this
             exact ak.o
           case measure=>simp[intOf];omega
          ·have HF:=hd (HG.o.trans ((Jp aC.o al.o (by rw[ak.o];exact a6)).trans ak.o));have ha0':(ax==0)=false:=by simpa using a6
           go_wp2_with fail
           go_ret
           exact⟨Ae HF.o.symm,ac.o⟩
         ·have HF:=hd (HG.o.trans (Jq HN.o fun i e hi he=>al.o i e (by omega) he));go_wp2_with fail
          go_ret
          exact⟨Ae HF.o.symm,HE.o⟩
       ·have HF:=hd ((Sa (by rw[af.o];exact a6)).trans af.o);have ha0':(ax==0)=false:=by simpa using a6
        go_wp2_with fail
        go_ret
        exact⟨Ae HF.o.symm,az.o⟩
   ·have HF:=hd (ao.o.2.1 (by have:=HK.o;omega) (by rw[aG.o,HN.o];simpa using ab));have aH:decide ((n:Int)=kn)=false:=by simpa using ab
    rw[aH];go_wp2_with fail
    go_ret
    exact⟨Ae HF.o.symm,ac.o⟩
end Go.Proofs.YtfppibmloloakaaGreatDoor
