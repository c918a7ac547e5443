import Derived.Test.YtfppibmloloakaaGreatDoorP27
import Derived.Test.YtfppibmloloakaaGreatDoorP12
import Derived.Test.YtfppibmloloakaaGreatDoorP04
namespace Go.Proofs.YtfppibmloloakaaGreatDoor
open Go.RowKit Go.Proofs.Tryz
set_option linter.all false
theorem kids_iff (k op:Int):0<=kidsN k op ↔ btw k 1 5=true/\(k=5->btw op 4 15=true):=by
 constructor
 ·intro h;have hk:=kidsN_kind h;refine⟨btw_iff.2 (by omega),fun h5=>?_⟩
  subst h5;have e:kidsN 5 op=opN op:=by simp[kidsN]
  rw[e] at h;unfold opN at h;refine btw_iff.2 ?_
  split at h
  ·omega
  split at h
  ·rename_i hb
   have:=btw_iff.1 hb;omega
  split at h
  ·rename_i hb
   have:=btw_iff.1 hb;omega
  ·omega
 ·rintro⟨h1,h2⟩;have:=btw_iff.1 h1;have hk:k=1\/k=2\/k=3\/k=4\/k=5:=by omega
  rcases hk with rfl|rfl|rfl|rfl|rfl
  ·simp[kidsN]
  ·simp[kidsN]
  ·simp[kidsN]
  ·simp[kidsN]
  ·have h3:=btw_iff.1 (h2 rfl);have e:kidsN 5 op=opN op:=by simp[kidsN]
   rw[e];unfold opN;split
   ·omega
   split
   ·omega
   split
   ·omega
   ·rename_i h4 h5 h6
    have h7:¬(4<=op/\op<=10):=fun h=>h5 (btw_iff.2 h)
    have h8:¬(11<=op/\op<=14):=fun h=>h6 (btw_iff.2 h)
    omega
attribute [local irreducible] relAt
set_option maxHeartbeats 16000000 in
set_option maxRecDepth 100000 in
theorem partR_any:∀(e:Ex) (vars:List ByteArray) (VA:Option Addr) (vn vc:Nat) (w:World) (cb:Nat) (bA:Option Addr) (nb bc:Nat) (v1:Value) (bf:Int),ExIn w e->SeqIn w VA 1 sC vars->vars.length=vn->Blk w cb 78 #[.slice bA nb bc,v1,.int .i64 bf]->nb<=1000000->
  Calls Tryz.prog 129 #[.pointer (some ⟨cb,0,none⟩),exV e,.slice VA vn vc] w (ErrP (exprE vars nb e) w):=by
 intro e
 refine ex_ind (P:=fun e=>∀(vars:List ByteArray) (VA:Option Addr) (vn vc:Nat) (w:World) (cb:Nat) (bA:Option Addr) (nb bc:Nat) (v1:Value) (bf:Int),ExIn w e->SeqIn w VA 1 sC vars->vars.length=vn->Blk w cb 78 #[.slice bA nb bc,v1,.int .i64 bf]->nb<=1000000->
  Calls Tryz.prog 129 #[.pointer (some ⟨cb,0,none⟩),exV e,.slice VA vn vc] w (ErrP (exprE vars nb e) w)) ?_ e
 intro h ks ih vars VA vn vc w cb bA nb bc v1 bf hX hV hvn hC hnb;have HI:=hd ih;have HX:=hd hX;have HR:=hd hX.row;have HA:=hd hX.at
 have HV:=hd hV;have HVN:=hd hvn;have HC:=hd hC;have hn9:ks.length<=1000000:=hX.row.1;have hcl:=hC.lt;clear ih hX hV hvn hC;show Calls _ _ #[_,exHV h ks.length,_] _ _
 generalize hn:ks.length=n at *;have HN:=hd hn;clear hn;have HE0:=hd ((Ext.refl [] w).alloc (.cells (exHA h n) 41));have HB0:=hd (Blk.new w 41 (exHA h n));have HPL:=hd (fun W hk=>exprForm_any h n W hk);have HRG:=hd (fun W hk=>exprRangeR_any h n W hk);obtain⟨x0,x1,x2,x3,x4,x5,x6,⟨y0,y1,y2,y3⟩,x8,x9⟩:=h;dsimp only[exHV,exHA] at *;have HCS:=hd (expr_cases vars nb ⟨x0,x1,x2,x3,x4,x5,x6,⟨y0,y1,y2,y3⟩,x8,x9⟩ ks);have HKD:Hd (0<=kidsN x0 x1 ↔ btw x0 1 5=true/\(x0=5->btw x1 4 15=true)):=hd (kids_iff x0 x1);have HFX:Hd (formX ⟨x0,x1,x2,x3,x4,x5,x6,⟨y0,y1,y2,y3⟩,x8,x9⟩ n=(plainX ⟨x0,x1,x2,x3,x4,x5,x6,⟨y0,y1,y2,y3⟩,x8,x9⟩&&decide ((n:Int)=kidsN x0 x1))):=hd rfl;go_enter Tryz.func129,Tryz.ntmps129
 go_upto_region 1 with fail
 generalize World.alloc w _=w2 at *;generalize hs:w.heap.size=s at *;have HE2:=HE0;have HB2:=HB0;clear HE0 HB0;have q2:=HB2.o.cell;have ql:=HB2.o.lt
 have hsplit:(kidsN x0 x1<0/\(btw x0 1 5=false\/(btw x0 1 5=true/\x0=5/\btw x1 4 15=false)))\/(¬kidsN x0 x1<0/\btw x0 1 5=true/\(x0≠5\/(x0=5/\btw x1 4 15=true))):=by
  cases hb1:btw x0 1 5
  ·left;refine⟨?_,.inl rfl⟩
   have:=fun h=>(HKD.o.1 h).1
   rw[hb1] at this;by_cases h:0<=kidsN x0 x1
   ·exact absurd (this h) (by simp)
   ·omega
  ·by_cases h5:x0=5
   ·cases hb2:btw x1 4 15
    ·left;refine⟨?_,.inr ⟨rfl,h5,rfl⟩⟩
     by_cases h:0<=kidsN x0 x1
     ·have:=(HKD.o.1 h).2 h5;rw[hb2] at this;cases this
     ·omega
    ·right;exact⟨by have:=HKD.o.2 ⟨hb1,fun _=>hb2⟩;omega,rfl,.inr ⟨h5,rfl⟩⟩
   ·right;exact⟨by have:=HKD.o.2 ⟨hb1,fun h=>absurd h h5⟩;omega,rfl,.inl h5⟩
 rcases hsplit with⟨hk,hbad⟩|⟨hk,hb1,hgood⟩
 ·have HF:=hd (HCS.o.1 hk);clear hk;rcases hbad with hb1|⟨hb1,rfl,hb2⟩
  ·go_wp2_with fail
   refine(within_any _ _ _ _).mono ?_
   rintro r w' ⟨rfl,rfl⟩;rw[hb1];clear hb1;go_wp2_with fail
   go_ret
   exact⟨ret_int HF.o.symm,HE2.o⟩
  ·go_wp2_with fail
   refine(within_any _ _ _ _).mono ?_
   rintro r w' ⟨rfl,rfl⟩;rw[hb1];clear hb1;go_wp2_with fail
   refine(within_any _ _ _ _).mono ?_
   rintro r w' ⟨rfl,rfl⟩;rw[hb2];go_wp2_with fail
   go_ret
   exact⟨ret_int HF.o.symm,HE2.o⟩
 ·have HK:Hd (¬kidsN x0 x1<0):=hd hk;have HB1:=hd hb1;clear hk hb1;go_cut [11] (fun s wx=>s=.bool false/\wx=w2)
  case first=>
   rcases hgood with h5|⟨rfl,hb2⟩
   ·have e5:(x0==5)=false:=by simpa using h5
    clear h5;go_wp2_with fail
    refine(within_any _ _ _ _).mono ?_
    rintro r w' ⟨rfl,rfl⟩;rw[HB1.o];go_wp2_with fail
    go_meet
    exact⟨rfl,rfl⟩
   ·have HB2':=hd hb2;clear hb2;go_wp2_with fail
    refine(within_any _ _ _ _).mono ?_
    rintro r w' ⟨rfl,rfl⟩;rw[HB1.o];go_wp2_with fail
    refine(within_any _ _ _ _).mono ?_
    rintro r w' ⟨rfl,rfl⟩;rw[HB2'.o];go_wp2_with fail
    go_meet
    exact⟨rfl,rfl⟩
  case rest=>
  obtain⟨rfl,rfl⟩:=hcut;go_wp2_with fail
  refine(HPL.o _ (by have:=HK.o;omega)).mono ?_
  rintro r w3 ⟨rfl,hE⟩;have HE3:=hd (HE2.o.trans hE);have HB3:=hd (HB2.o.ext hE (by simp));clear hE q2 ql;have q3:=HB3.o.cell;have ql:=HB3.o.lt;rw[HFX.o];generalize hkn:kidsN x0 x1=kn at *;have HKN:=hd hkn;clear hkn;cases hp:plainX ⟨x0,x1,x2,x3,x4,x5,x6,⟨y0,y1,y2,y3⟩,x8,x9⟩ with
  | false=>
   have HF:=hd (HCS.o.2.1 (by have:=HK.o;omega) (by rw[hp];rfl));clear hp;go_wp2_with fail
   go_ret
   exact⟨ret_int HF.o.symm,HE3.o⟩
  | true=>
   have HPX:=hd hp;clear hp;by_cases hlen:(n:Int)=kn
   ·have HLN:Hd ((ks.length:Int)=kn):=hd (by rw[HN.o,hlen]);have hl2:decide ((n:Int)=kn)=true:=by simpa using hlen
    rw[hl2];clear hlen hl2;go_wp2_with fail
    refine(HRG.o _ (by unfold okKind;have h9:=btw_iff.1 HB1.o;simp only;omega)).mono ?_
    rintro r w4 ⟨rfl,hE⟩;have HE4:=hd (HE3.o.trans hE);have HB4:=hd (HB3.o.ext hE (by simp));clear hE q3 ql;have q4:=HB4.o.cell;have ql:=HB4.o.lt;cases hr:rangeX ⟨x0,x1,x2,x3,x4,x5,x6,⟨y0,y1,y2,y3⟩,x8,x9⟩ with
    | false=>
     have HF:=hd (HCS.o.2.2.1 (by have:=HK.o;omega) HPX.o HLN.o hr);clear hr;go_wp2_with fail
     go_ret
     exact⟨ret_int HF.o.symm,HE4.o⟩
    | true=>
     have HRX:=hd hr;clear hr;go_upto_region 7 with fail
     clear q4 ql;have HC4:=hd (HC.o.ext HE4.o (by simp));by_cases hbx:(x0=3\/x0=4)/\¬(0<=x6/\x6<nb)
     ·have HF:=hd (HCS.o.2.2.2.1 (by have:=HK.o;omega) HPX.o HLN.o HRX.o hbx);have hrd:(decide (x0=3)||decide (x0=4))=true:=by simp;exact hbx.1
      have hbt:btw x6 0 ((nb:Int)-1)=false:=by
       cases hb:btw x6 0 ((nb:Int)-1)
       ·rfl
       ·have:=btw_iff.1 hb;exact absurd ⟨this.1,by omega⟩ hbx.2
      have HRD:=hd hrd;have HBT:=hd hbt;clear hbx hrd hbt;refine wp_region_rel 13 (JE _) (Ext []) (kinds [(2,sFix (.bool true))]) (by kernel_rfl) (by kernel_rfl) JE.less ?_ JE.start ?_
      ·repeat(first|exact Stays.nil|refine Stays.cons sFix.stays ?_)
      simp only[List.take_succ_cons,List.take_zero,List.drop_succ_cons,List.drop_zero]
      repeat
       refine relAt_det rfl rfl ?_
       apply Exists.intro
       refine⟨fun wr nr hJ=>?_,?_⟩
       ·have q:=(HB4.o.ext hJ (by simp)).cell;have ql:=(HB4.o.ext hJ (by simp)).lt;have qc:=(HC4.o.ext hJ (by simp)).cell;have qcl:=(HC4.o.ext hJ (by simp)).lt;clear hJ;(go_simp;try go_bits)
        first|rfl|exact⟨rfl,rfl⟩
       simp only[Act.put,List.setIfInBounds_toArray,List.set_cons_succ,List.set_cons_zero]
      refine rel_fix rfl rfl ?_ ?_
      ·apply Exists.intro
       apply Exists.intro
       refine⟨fun wr=>?_,fun wr nr hJ=>?_⟩
       ·go_simp
        first|exact⟨rfl,rfl⟩|rfl
       ·exact(reads_any x0 wr).mono (by rintro e w' ⟨rfl,rfl⟩;exact⟨by rw[HRD.o],Ext.refl _ _⟩)
      simp only[Act.put,List.setIfInBounds_toArray,List.set_cons_succ,List.set_cons_zero]
      repeat
       refine relAt_det rfl rfl ?_
       apply Exists.intro
       refine⟨fun wr nr hJ=>?_,?_⟩
       ·have q:=(HB4.o.ext hJ (by simp)).cell;have ql:=(HB4.o.ext hJ (by simp)).lt;have qc:=(HC4.o.ext hJ (by simp)).cell;have qcl:=(HC4.o.ext hJ (by simp)).lt;clear hJ;(go_simp;try go_bits)
        first|rfl|exact⟨rfl,rfl⟩
       simp only[Act.put,List.setIfInBounds_toArray,List.set_cons_succ,List.set_cons_zero]
      refine relAt_nil (fun w5 hJ hF=>?_)
      have HE5:=hd (HE4.o.trans hJ);clear hF hJ;go_wp2_with fail
      refine(within_any _ _ _ _).mono ?_
      rintro r w' ⟨rfl,rfl⟩;rw[HBT.o];go_wp2_with fail
      go_ret
      exact⟨ret_int HF.o.symm,HE5.o⟩
     ·have HH:=hd (HCS.o.2.2.2.2 (by have:=HK.o;omega) HPX.o HLN.o HRX.o hbx)
      have hcs:(decide (x0=3)||decide (x0=4))=false\/((decide (x0=3)||decide (x0=4))=true/\btw x6 0 ((nb:Int)-1)=true):=by
       by_cases h34:x0=3\/x0=4
       ·right
        refine⟨by simp;exact h34,btw_iff.2 ?_⟩
        by_cases h9:0<=x6/\x6<nb
        ·omega
        ·exact absurd ⟨h34,h9⟩ hbx
       ·left;simp;omega
      clear hbx;rcases hcs with hrd|⟨hrd,hbt⟩
      ·have HRD:=hd hrd;clear hrd;refine wp_region_rel 13 (JE _) (Ext []) (kinds [(2,sFix (.bool false))]) (by kernel_rfl) (by kernel_rfl) JE.less ?_ JE.start ?_
       ·repeat(first|exact Stays.nil|refine Stays.cons sFix.stays ?_)
       simp only[List.take_succ_cons,List.take_zero,List.drop_succ_cons,List.drop_zero]
       repeat
        refine relAt_det rfl rfl ?_
        apply Exists.intro
        refine⟨fun wr nr hJ=>?_,?_⟩
        ·have q:=(HB4.o.ext hJ (by simp)).cell;have ql:=(HB4.o.ext hJ (by simp)).lt;have qc:=(HC4.o.ext hJ (by simp)).cell;have qcl:=(HC4.o.ext hJ (by simp)).lt;clear hJ;(go_simp;try go_bits)
         first|rfl|exact⟨rfl,rfl⟩
        simp only[Act.put,List.setIfInBounds_toArray,List.set_cons_succ,List.set_cons_zero]
       refine rel_fix rfl rfl ?_ ?_
       ·apply Exists.intro
        apply Exists.intro
        refine⟨fun wr=>?_,fun wr nr hJ=>?_⟩
        ·go_simp
         first|exact⟨rfl,rfl⟩|rfl
        ·exact(reads_any x0 wr).mono (by rintro e w' ⟨rfl,rfl⟩;exact⟨by rw[HRD.o],Ext.refl _ _⟩)
       simp only[Act.put,List.setIfInBounds_toArray,List.set_cons_succ,List.set_cons_zero]
       repeat
        refine relAt_det rfl rfl ?_
        apply Exists.intro
        refine⟨fun wr nr hJ=>?_,?_⟩
        ·have q:=(HB4.o.ext hJ (by simp)).cell;have ql:=(HB4.o.ext hJ (by simp)).lt;have qc:=(HC4.o.ext hJ (by simp)).cell;have qcl:=(HC4.o.ext hJ (by simp)).lt;clear hJ;(go_simp;try go_bits)
         first|rfl|exact⟨rfl,rfl⟩
        simp only[Act.put,List.setIfInBounds_toArray,List.set_cons_succ,List.set_cons_zero]
       iterate 9
        refine relAt_skip rfl ?_
        simp only[Act.put,List.setIfInBounds_toArray,List.set_cons_succ,List.set_cons_zero]
       refine relAt_nil (fun w5 hJ hF=>?_)
       have HE5:=hd (HE4.o.trans hJ);have HB5:=hd (HB4.o.ext hJ (by simp));clear hF hJ;have q5:=HB5.o.cell;have ql5:=HB5.o.lt;go_wp2_with fail
       refine(affineR_any ⟨y0,y1,y2,y3⟩ VA vn vc vars _ (HA.o.keep HE5.o) (HV.o.keep HE5.o) HVN.o).mono ?_
       rintro r w6 ⟨rfl,hE⟩;have HE6:=hd (HE5.o.trans hE);have HB6:=hd (HB5.o.ext hE (by simp));clear hE q5 ql5;have q6:=HB6.o.cell;have ql6:=HB6.o.lt;generalize hax:affE vars ⟨y0,y1,y2,y3⟩=ax;have HHX:=hd (HH.o.trans hax);clear hax;by_cases ha0:ax=0
       ·subst ha0;have HG:=hd (expr_good HHX.o);have HEs:=HE6;clear HHX HH;go_wp2_with fail
        clear q6 ql6;go_loopw [62] (fun i wr=>∃k:Nat,i=.int .i64 k/\k<=n/\Hd (Ext [] w wr)/\Hd (∀(j:Nat) (e:Ex),j<k->ks[j]? = some e->exprE vars nb e=0)) (fun i _=>(n-intOf i).toNat)
        case atStart=>exact⟨0,rfl,Nat.zero_le _,HEs,hd fun j x hj=>absurd hj (by omega)⟩
        case round=>
         obtain⟨k,rfl,hk,HE,HN2⟩:=hrel;clear HEs;rename World=>wq
         by_cases hlt:k<n
         ·obtain⟨b,x,rfl,hx,hc⟩:=(HR.o.keep HE.o).at (i:=k) (by have:=HN.o;omega);have HXK:=hd hx;have hmem:=List.mem_of_getElem? hx;have HEx:=hd (HE.o.alloc (.cells (exArr x) 41));have HCC:=hd (HI.o x hmem vars VA vn vc (wq.alloc (.cells (exArr x) 41)) cb bA nb bc v1 bf ((HX.o.kid hmem).keep HEx.o) (HV.o.keep HEx.o) HVN.o (HC.o.ext HEx.o (by simp)) hnb);have HW:=hd (fun j v hv=>hc j v (by rw[exC_arr];exact hv):∀(j:Nat) (v:Value),(exArr x).toList[j]? = some v->wq.cell? ⟨b,k*10+j,none⟩=some v);have HW2:=hd (Blk.new wq 41 (exArr x)).wide;rw[exV_arr] at HCC;clear hx hc hmem
          go_wp2_with (first
           | refine wpList_load_wide rfl 41 _ rfl b (k*10) rfl (exArr x) HW.o _ Tryz.underlying41 rfl infoEx ?_
           | refine wpList_make_wide rfl rfl 41 _ _ rfl rfl zEx (zEx_run _) (exArr x) rfl rfl infoEx rfl (exArr_one x) ?_
           | refine wpList_load_wide rfl 41 _ rfl wq.heap.size 0 rfl (exArr x) HW2.o _ Tryz.underlying41 rfl infoEx ?_)
          refine HCC.o.mono ?_
          rintro r w' ⟨rfl,hE⟩;have HE3:=hd (HEx.o.trans hE);clear hE HCC;generalize hax:exprE vars nb x=ax;have HAX:=hd hax;clear hax;by_cases ha0:ax=0
          ·subst ha0;go_wp2_with fail
           go_roundw
           case rel=>
            refine⟨k+1,by go_num,by omega,HE3,hd fun j e hj he=>?_⟩
            rcases Nat.lt_or_ge j k with h1|h1
            ·exact HN2.o j e h1 he
            ·have:j=k:=by omega
             subst this;have:=HXK.o.symm.trans he;cases this
             exact HAX.o
           case measure=>simp[intOf];omega
          ·have HF:=hd (HG.o.trans ((firstE_at HXK.o HN2.o (by rw[HAX.o];exact ha0)).trans HAX.o));have ha0':(ax==0)=false:=by simpa using ha0
           go_wp2_with fail
           go_ret
           exact⟨ret_int HF.o.symm,HE3.o⟩
         ·have HF:=hd (HG.o.trans (firstE_ok HN.o fun i e hi he=>HN2.o i e (by omega) he));go_wp2_with fail
          go_ret
          exact⟨ret_int HF.o.symm,HE.o⟩
       ·have HF:=hd ((expr_bad (by rw[HHX.o];exact ha0)).trans HHX.o);have ha0':(ax==0)=false:=by simpa using ha0
        go_wp2_with fail
        go_ret
        exact⟨ret_int HF.o.symm,HE6.o⟩
      ·have HRD:=hd hrd;have HBT:=hd hbt;clear hrd hbt;refine wp_region_rel 13 (JE _) (Ext []) (kinds [(2,sFix (.bool true))]) (by kernel_rfl) (by kernel_rfl) JE.less ?_ JE.start ?_
       ·repeat(first|exact Stays.nil|refine Stays.cons sFix.stays ?_)
       simp only[List.take_succ_cons,List.take_zero,List.drop_succ_cons,List.drop_zero]
       repeat
        refine relAt_det rfl rfl ?_
        apply Exists.intro
        refine⟨fun wr nr hJ=>?_,?_⟩
        ·have q:=(HB4.o.ext hJ (by simp)).cell;have ql:=(HB4.o.ext hJ (by simp)).lt;have qc:=(HC4.o.ext hJ (by simp)).cell;have qcl:=(HC4.o.ext hJ (by simp)).lt;clear hJ;(go_simp;try go_bits)
         first|rfl|exact⟨rfl,rfl⟩
        simp only[Act.put,List.setIfInBounds_toArray,List.set_cons_succ,List.set_cons_zero]
       refine rel_fix rfl rfl ?_ ?_
       ·apply Exists.intro
        apply Exists.intro
        refine⟨fun wr=>?_,fun wr nr hJ=>?_⟩
        ·go_simp
         first|exact⟨rfl,rfl⟩|rfl
        ·exact(reads_any x0 wr).mono (by rintro e w' ⟨rfl,rfl⟩;exact⟨by rw[HRD.o],Ext.refl _ _⟩)
       simp only[Act.put,List.setIfInBounds_toArray,List.set_cons_succ,List.set_cons_zero]
       repeat
        refine relAt_det rfl rfl ?_
        apply Exists.intro
        refine⟨fun wr nr hJ=>?_,?_⟩
        ·have q:=(HB4.o.ext hJ (by simp)).cell;have ql:=(HB4.o.ext hJ (by simp)).lt;have qc:=(HC4.o.ext hJ (by simp)).cell;have qcl:=(HC4.o.ext hJ (by simp)).lt;clear hJ;(go_simp;try go_bits)
         first|rfl|exact⟨rfl,rfl⟩
        simp only[Act.put,List.setIfInBounds_toArray,List.set_cons_succ,List.set_cons_zero]
       refine relAt_nil (fun w5 hJ hF=>?_)
       have HE5:=hd (HE4.o.trans hJ);have HB5:=hd (HB4.o.ext hJ (by simp));clear hF hJ;have q5:=HB5.o.cell;have ql5:=HB5.o.lt;go_wp2_with fail
       refine(within_any _ _ _ _).mono ?_
       rintro r w' ⟨rfl,rfl⟩;rw[HBT.o];clear q5 ql5;have q5:=HB5.o.cell;have ql5:=HB5.o.lt;go_wp2_with fail
       refine(affineR_any ⟨y0,y1,y2,y3⟩ VA vn vc vars _ (HA.o.keep HE5.o) (HV.o.keep HE5.o) HVN.o).mono ?_
       rintro r w6 ⟨rfl,hE⟩;have HE6:=hd (HE5.o.trans hE);have HB6:=hd (HB5.o.ext hE (by simp));clear hE q5 ql5;have q6:=HB6.o.cell;have ql6:=HB6.o.lt;generalize hax:affE vars ⟨y0,y1,y2,y3⟩=ax;have HHX:=hd (HH.o.trans hax);clear hax;by_cases ha0:ax=0
       ·subst ha0;have HG:=hd (expr_good HHX.o);have HEs:=HE6;clear HHX HH;go_wp2_with fail
        clear q6 ql6;go_loopw [62] (fun i wr=>∃k:Nat,i=.int .i64 k/\k<=n/\Hd (Ext [] w wr)/\Hd (∀(j:Nat) (e:Ex),j<k->ks[j]? = some e->exprE vars nb e=0)) (fun i _=>(n-intOf i).toNat)
        case atStart=>exact⟨0,rfl,Nat.zero_le _,HEs,hd fun j x hj=>absurd hj (by omega)⟩
        case round=>
         obtain⟨k,rfl,hk,HE,HN2⟩:=hrel;clear HEs;rename World=>wq
         by_cases hlt:k<n
         ·obtain⟨b,x,rfl,hx,hc⟩:=(HR.o.keep HE.o).at (i:=k) (by have:=HN.o;omega);have HXK:=hd hx;have hmem:=List.mem_of_getElem? hx;have HEx:=hd (HE.o.alloc (.cells (exArr x) 41));have HCC:=hd (HI.o x hmem vars VA vn vc (wq.alloc (.cells (exArr x) 41)) cb bA nb bc v1 bf ((HX.o.kid hmem).keep HEx.o) (HV.o.keep HEx.o) HVN.o (HC.o.ext HEx.o (by simp)) hnb);have HW:=hd (fun j v hv=>hc j v (by rw[exC_arr];exact hv):∀(j:Nat) (v:Value),(exArr x).toList[j]? = some v->wq.cell? ⟨b,k*10+j,none⟩=some v);have HW2:=hd (Blk.new wq 41 (exArr x)).wide;rw[exV_arr] at HCC;clear hx hc hmem
          go_wp2_with (first
           | refine wpList_load_wide rfl 41 _ rfl b (k*10) rfl (exArr x) HW.o _ Tryz.underlying41 rfl infoEx ?_
           | refine wpList_make_wide rfl rfl 41 _ _ rfl rfl zEx (zEx_run _) (exArr x) rfl rfl infoEx rfl (exArr_one x) ?_
           | refine wpList_load_wide rfl 41 _ rfl wq.heap.size 0 rfl (exArr x) HW2.o _ Tryz.underlying41 rfl infoEx ?_)
          refine HCC.o.mono ?_
          rintro r w' ⟨rfl,hE⟩;have HE3:=hd (HEx.o.trans hE);clear hE HCC;generalize hax:exprE vars nb x=ax;have HAX:=hd hax;clear hax;by_cases ha0:ax=0
          ·subst ha0;go_wp2_with fail
           go_roundw
           case rel=>
            refine⟨k+1,by go_num,by omega,HE3,hd fun j e hj he=>?_⟩
            rcases Nat.lt_or_ge j k with h1|h1
            ·exact HN2.o j e h1 he
            ·have:j=k:=by omega
             subst this;have:=HXK.o.symm.trans he;cases this
             exact HAX.o
           case measure=>simp[intOf];omega
          ·have HF:=hd (HG.o.trans ((firstE_at HXK.o HN2.o (by rw[HAX.o];exact ha0)).trans HAX.o));have ha0':(ax==0)=false:=by simpa using ha0
           go_wp2_with fail
           go_ret
           exact⟨ret_int HF.o.symm,HE3.o⟩
         ·have HF:=hd (HG.o.trans (firstE_ok HN.o fun i e hi he=>HN2.o i e (by omega) he));go_wp2_with fail
          go_ret
          exact⟨ret_int HF.o.symm,HE.o⟩
       ·have HF:=hd ((expr_bad (by rw[HHX.o];exact ha0)).trans HHX.o);have ha0':(ax==0)=false:=by simpa using ha0
        go_wp2_with fail
        go_ret
        exact⟨ret_int HF.o.symm,HE6.o⟩
   ·have HF:=hd (HCS.o.2.1 (by have:=HK.o;omega) (by rw[HPX.o,HN.o];simpa using hlen));have hl2:decide ((n:Int)=kn)=false:=by simpa using hlen
    rw[hl2];go_wp2_with fail
    go_ret
    exact⟨ret_int HF.o.symm,HE3.o⟩
end Go.Proofs.YtfppibmloloakaaGreatDoor
