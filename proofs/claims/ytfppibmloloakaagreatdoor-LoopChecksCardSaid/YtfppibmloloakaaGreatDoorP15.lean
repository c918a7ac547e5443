import Derived.Test.YtfppibmloloakaaGreatDoorP13
import Derived.Test.YtfppibmloloakaaGreatDoorP14
import Derived.Shelf.Abstract
namespace Go.Proofs.YtfppibmloloakaaGreatDoor
open Go.RowKit Go.Proofs.Tryz
set_option linter.all false
theorem enters_headOne:∀args w,(callFunc 218 args).run Tryz.prog w=.ok (.enter 218 args) w:=by
 obtain⟨c,hc⟩:∃c,Tryz.f218.body=some c:=⟨_,rfl⟩;exact fun args w=>enters_of Tryz.func218 (by kernel_rfl) hc args w
theorem headE_1 {vars:List ByteArray}{nb before:Nat}{h:SH}{b:List St}(h1:3000<=before\/h.k=1/\8<=vars.length):headE vars nb before h b=2:=by unfold headE;rw[if_pos h1]
theorem headE_2 {vars:List ByteArray}{nb before:Nat}{h:SH}{b:List St}(h1:¬(3000<=before\/h.k=1/\8<=vars.length))(h2:btw h.k 1 3=false):headE vars nb before h b=4:=by unfold headE;rw[if_neg h1,if_pos h2]
theorem headE_3 {vars:List ByteArray}{nb before:Nat}{h:SH}{b:List St}(h1:¬(3000<=before\/h.k=1/\8<=vars.length))(h2:btw h.k 1 3=true)(h3:unusedS h b.length=true):headE vars nb before h b=3:=by unfold headE;rw[if_neg h1,if_neg (by simp[h2]),if_pos h3]
theorem headE_4 {vars:List ByteArray}{nb before:Nat}{h:SH}{b:List St}(h1:¬(3000<=before\/h.k=1/\8<=vars.length))(h2:btw h.k 1 3=true)(h3:unusedS h b.length=false):headE vars nb before h b=fieldsE vars nb h b:=by unfold headE;rw[if_neg h1,if_neg (by simp[h2]),if_neg (by simp[h3])]
theorem isWideSt {W:World}{s0:Nat}(h:SH)(n:Nat)(x:EH)(m:Nat)(hW:Blk W s0 43 (stArr h n x m)):∀(j:Nat) (v:Value),(stVal x m).toList[j]? = some v->W.cell? ⟨s0,11+j,none⟩=some v:=fun j v hv=>by
 rw[hW.cell]
 have:(stArr h n x m)[11+j]? = (stVal x m)[j]?:=by
  rcases Nat.lt_or_ge j 10 with hj|hj
  ·have:j=0\/j=1\/j=2\/j=3\/j=4\/j=5\/j=6\/j=7\/j=8\/j=9:=by omega
   rcases this with rfl|rfl|rfl|rfl|rfl|rfl|rfl|rfl|rfl|rfl<;>rfl
  ·rw[Array.getElem?_eq_none (by simp[stArr];omega),Array.getElem?_eq_none (by simp[stVal];omega)]
 rw[this];simpa using hv
theorem fieldsE_1 {vars:List ByteArray}{nb:Nat}{h:SH}{b:List St}(hk:h.k=1):fieldsE vars nb h b=if nameB h.var=false then 5 else if hasS vars h.var then 6 else if bdd h.lo=false\/bdd h.hi=false\/btw h.step 1 100000=false then 9 else if h.vec=true/\b.any noStore=true then 3 else 0:=by unfold fieldsE;rw[if_pos hk]
theorem fieldsE_2 {vars:List ByteArray}{nb:Nat}{h:SH}{b:List St}(hk:h.k=2):fieldsE vars nb h b=if btw h.conds.length 1 4=false then 3 else firstE (affE vars) h.conds:=by unfold fieldsE;rw[if_neg (by omega),if_pos hk]
theorem fieldsE_3 {vars:List ByteArray}{nb:Nat}{h:SH}{b:List St}(hk:h.k=3):fieldsE vars nb h b=if btw h.buf 0 (nb-1)=false then 1 else if affE vars h.at_=0 then(if fits 0 1 h.val then exprE vars nb h.val else 2) else affE vars h.at_:=by unfold fieldsE;rw[if_neg (by omega),if_neg (by omega)]
set_option maxHeartbeats 8000000 in
set_option maxRecDepth 100000 in
theorem head_any (h:SH)(b:List St)(vars:List ByteArray)(VA:Option Addr)(vn vc:Nat)(w:World)(cb:Nat)(bA:Option Addr)(nb bc before:Nat)(hX:StIn w (.mk h b))(hV:SeqIn w VA 1 sC vars)(hvn:vars.length=vn)
  (hC:Blk w cb 238 #[.slice bA nb bc,.int .i64 before]) (hnb:nb<=1000000) (hbf:before<=3000) :
  Calls Tryz.prog 188 #[.pointer (some ⟨cb,0,none⟩),stHV h b.length,.slice VA vn vc] w (ErrP (headE vars nb before h b) w):=by
 obtain⟨hc,hcs,ha,hv,hp,hz,hb,hs⟩:=hX.all;have HCN:=hd hc;have HCS:=hd hcs;have HA:=hd ha;have HVL:=hd hv;have HZ:=hd hz;have HBR:=hd hb;have HV:=hd hV;have HVN:=hd hvn;have HC:=hd hC;have hcl:=hC.lt;have HUN:=hd (fun W=>unused_any h b.length W);clear hX hc hcs ha hv hp hz hb hs hV hvn hC;unfold stHV at HUN⊢;obtain⟨a0,a1,a2,a3,a4,a5,a6,a7,a8,a9,aa⟩:=stArr_get h b.length h.val.h h.val.ks.length;have HW:=hd (fun W s0=>isWideSt (W:=W) (s0:=s0) h b.length h.val.h h.val.ks.length);have HB0:=hd (Blk.new w 43 (stArr h b.length h.val.h h.val.ks.length));have HE0:=hd ((Ext.refl [] w).alloc (.cells (stArr h b.length h.val.h h.val.ks.length) 43));have HSZ:=hd (show(Tryz.prog.info? 43).map (·.size)=some (stArr h b.length h.val.h h.val.ks.length).size from infoSt);generalize stArr h b.length h.val.h h.val.ks.length=arr at *;go_enter Tryz.func188,Tryz.ntmps188
 go_upto_region 1 with fail
 generalize World.alloc w _=w1 at *;generalize hs0:w.heap.size=s0 at *;have q1:=HB0.o.cell;have ql:=HB0.o.lt;have c1:=(HC.o.ext HE0.o (by simp)).cell;have cl1:=(HC.o.ext HE0.o (by simp)).lt;go_cut [12] (fun s wx=>s=.bool (decide (3000<=before\/h.k=1/\8<=vn))/\wx=w1)
 case first=>
  go_wp2_with fail
  all_goals
   go_meet
   refine⟨congrArg Value.bool ?_,rfl⟩
   first|exact decide_eq_decide.2 (by omega)|exact(decide_eq_true (by omega)).symm|exact(decide_eq_false (by omega)).symm|(rw[Bool.eq_iff_iff];simp only[Bool.or_eq_true,decide_eq_true_eq];omega)|(simp_all;done)|(simp_all;omega)
 case rest=>
  obtain⟨rfl,rfl⟩:=hcut;by_cases hq1:3000<=before\/h.k=1/\8<=vn
  ·have HF:=hd (headE_1 (nb:=nb) (b:=b) (show 3000<=before\/h.k=1/\8<=vars.length by rw[HVN.o];exact hq1));rw[decide_eq_true hq1];clear hq1;go_wp2_with fail
   go_ret
   exact⟨ret_int HF.o.symm,HE0.o⟩
  ·have HQ1:=hd (show ¬(3000<=before\/h.k=1/\8<=vars.length) by rw[HVN.o];exact hq1);rw[decide_eq_false hq1];clear hq1;go_upto_region 3 with fail
   go_cut [28] (fun s wx=>s=.bool (!btw h.k 1 3)/\Hd (Ext [] w wx)/\Hd (Blk wx s0 43 arr))
   case first=>
    go_wp2_with fail
    all_goals
     go_meet
     refine⟨congrArg Value.bool ?_,HE0,HB0⟩
     unfold btw
     first|exact decide_eq_decide.2 (by omega)|(rw[Bool.eq_iff_iff];simp;omega)|(rw[Bool.eq_iff_iff];simp only[Bool.or_eq_true,decide_eq_true_eq,Bool.not_eq_true',Bool.and_eq_false_iff,decide_eq_false_iff_not];omega)|(simp_all;done)|(simp_all;omega)
   case rest=>
    obtain⟨rfl,HE1,HB1⟩:=hcut;clear q1 ql c1 cl1 HB0 HE0;rename World=>w1'
    have q1:=HB1.o.cell;have ql:=HB1.o.lt;cases hk:btw h.k 1 3
    ·have HF:=hd (headE_2 HQ1.o hk (nb:=nb) (b:=b));clear hk;go_wp2_with fail
     go_ret
     exact⟨ret_int HF.o.symm,HE1.o⟩
    ·have HK:=hd hk;clear hk
     go_wp2_with (
      refine wpList_load_wide rfl 43 _ rfl s0 0 rfl arr HB1.o.wide _ Tryz.underlying43 rfl HSZ.o ?_)
     refine(HUN.o _).mono ?_
     rintro r w2 ⟨rfl,hE⟩;have HE2:=hd (HE1.o.trans hE);have HB2:=hd (HB1.o.ext hE (by simp));clear hE q1 ql HB1;cases hu:unusedS h b.length
     ·have HH:=hd (headE_4 HQ1.o HK.o hu (nb:=nb));clear hu HUN;have q2:=HB2.o.cell;have ql:=HB2.o.lt;have hk3:=btw_iff.1 HK.o;have hk4:h.k=1\/h.k=2\/h.k=3:=by omega
      clear hk3 HK;generalize hR:headE vars nb before h b=R at *;clear hR;have HH2:=hd (show R=fieldsE vars nb h b from HH.o);clear HH HQ1;rcases hk4 with hk|hk|hk
      ·have HG:=hd (fieldsE_1 (vars:=vars) (nb:=nb) (b:=b) hk);go_wp2_with fail
       refine(isName_any h.var _ (by have:=HZ.o;omega)).mono ?_
       rintro r w3 ⟨rfl,hE⟩;have HE3:=hd (HE2.o.trans hE);have HB3:=hd (HB2.o.ext hE (by simp));clear hE q2 ql HB2;have q3:=HB3.o.cell;have ql:=HB3.o.lt;cases hn:nameB h.var
       ·have HF:=hd (HH2.o.trans (HG.o.trans (if_pos hn)));clear hn;go_wp2_with fail
        go_ret
        exact⟨ret_int HF.o.symm,HE3.o⟩
       ·have HG2:=hd (HG.o.trans (if_neg (by rw[hn];simp)));clear hn HG;go_wp2_with fail
        refine(sHas_any VA vn vc vars h.var _ (HV.o.keep HE3.o) HVN.o).mono ?_
        rintro r w4 ⟨rfl,hE⟩;have HE4:=hd (HE3.o.trans hE);have HB4:=hd (HB3.o.ext hE (by simp));clear hE q3 ql HB3;have q4:=HB4.o.cell;have ql:=HB4.o.lt;cases hn:hasS vars h.var
        ·have HG3:=hd (HG2.o.trans (if_neg (by rw[hn];simp)));clear hn HG2;go_upto_region 22 with fail
         go_cut [83] (fun s wx=>s=.bool (decide (bdd h.lo=false\/bdd h.hi=false\/btw h.step 1 100000=false))/\wx=w4)
         case first=>
          cases h1:bdd h.lo
          ·have H1:=hd h1;go_wp2_with fail
           refine(bounded_any _ _).mono ?_
           rintro r w' ⟨rfl,rfl⟩;rw[H1.o];go_wp2_with fail
           go_meet
           exact⟨by simp[H1.o],rfl⟩
          ·have H1:=hd h1;cases h2:bdd h.hi
           ·have H2:=hd h2;go_wp2_with fail
            refine(bounded_any _ _).mono ?_
            rintro r w' ⟨rfl,rfl⟩;rw[H1.o];go_wp2_with fail
            refine(bounded_any _ _).mono ?_
            rintro r w' ⟨rfl,rfl⟩;rw[H2.o];go_wp2_with fail
            go_meet
            exact⟨by simp[H2.o],rfl⟩
           ·have H2:=hd h2;go_wp2_with fail
            refine(bounded_any _ _).mono ?_
            rintro r w' ⟨rfl,rfl⟩;rw[H1.o];go_wp2_with fail
            refine(bounded_any _ _).mono ?_
            rintro r w' ⟨rfl,rfl⟩;rw[H2.o];clear h1 h2;go_wp2_with fail
            all_goals
             go_meet
             refine⟨congrArg Value.bool ?_,rfl⟩
             have h1:=H1.o;have h2:=H2.o
             first|(rw[Bool.eq_iff_iff];simp[btw];omega)|(simp_all [btw];done)|(simp_all [btw];omega)
         case rest=>
          obtain⟨rfl,rfl⟩:=hcut;by_cases hb9:bdd h.lo=false\/bdd h.hi=false\/btw h.step 1 100000=false
          ·have HF:=hd (HH2.o.trans (HG3.o.trans (if_pos hb9)));rw[decide_eq_true hb9];clear hb9;go_wp2_with fail
           go_ret
           exact⟨ret_int HF.o.symm,HE4.o⟩
          ·have HG4:=hd (HG3.o.trans (if_neg hb9));rw[decide_eq_false hb9];clear hb9 HG3
           have HST:=hd (fun W hW=>st_has h.A b.length h.cap b 218 #[] noStore W (HBR.o.keep hW) rfl ⟨enters_headOne,fun i x hx w' hw'=>by
            obtain⟨g,gs⟩:=x;exact headOne_any g gs.length w'⟩)
           cases hv:h.vec
           ·have HF:=hd (HH2.o.trans (HG4.o.trans (if_neg (by rw[hv];simp))));rw[hv] at a5;go_wp2_with fail
            go_ret
            exact⟨ret_int HF.o.symm,HE4.o⟩
           ·have HG5:=hd (HG4.o);rw[hv] at a5;have HVV:=hd hv;clear hv;go_wp2_with fail
            refine(HST.o _ HE4.o).mono ?_
            rintro r w5 ⟨rfl,hE⟩;have HE5:=hd (HE4.o.trans hE);clear hE;cases hn:b.any noStore
            ·have HF:=hd (HH2.o.trans (HG5.o.trans (if_neg (by rw[hn];simp))));clear hn;go_wp2_with fail
             go_ret
             exact⟨ret_int HF.o.symm,HE5.o⟩
            ·have HF:=hd (HH2.o.trans (HG5.o.trans (if_pos ⟨HVV.o,hn⟩)));clear hn;go_wp2_with fail
             go_ret
             exact⟨ret_int HF.o.symm,HE5.o⟩
        ·have HF:=hd (HH2.o.trans (HG2.o.trans (if_pos hn)));clear hn;go_wp2_with fail
         go_ret
         exact⟨ret_int HF.o.symm,HE4.o⟩
      ·have HG:=hd (fieldsE_2 (vars:=vars) (nb:=nb) (b:=b) hk);have hcn:=HCN.o.1;generalize hm:h.conds.length=m at *;have HM:=hd hm;clear hm;cases hq:btw (m:Int) 1 4
       ·have HF:=hd (HH2.o.trans (HG.o.trans (if_pos hq)));have hq2:¬(1<=(m:Int)/\(m:Int)<=4):=fun h=>by rw[btw_iff.2 h] at hq;cases hq
        clear hq;go_wp2_with fail
        all_goals first|(go_ret;exact⟨ret_int HF.o.symm,HE2.o⟩)|(exfalso;omega)
       ·have HG2:=hd (HG.o.trans (if_neg (by rw[hq];simp)));have hq2:=btw_iff.1 hq;have hq3:1<=m/\m<=4:=by omega
        clear hq hq2 HG;have e1:decide ((m:Int)<1)=false:=by simp;omega
        have e2:decide (4<(m:Int))=false:=by simp;omega
        go_wp2_with fail
        clear q2 ql;go_loopw [127] (fun i wr=>∃k:Nat,i=.int .i64 k/\k<=m/\Hd (Ext [] w wr)/\Hd (∀(j:Nat) (a:Af),j<k->h.conds[j]? = some a->affE vars a=0)) (fun i _=>(m-intOf i).toNat)
        case atStart=>exact⟨0,rfl,Nat.zero_le _,HE2,hd fun j x hj=>absurd hj (by omega)⟩
        case round=>
         obtain⟨k,rfl,hk5,HE,HN2⟩:=hrel;rename World=>wq
         by_cases hlt:k<m
         ·obtain⟨bb,x,hbb,hx,hc⟩:=(HCN.o.keep HE.o).at (i:=k) (by have:=HM.o;omega);have HXK:=hd hx;have hmem:=List.mem_of_getElem? hx;have HXA:=hd (HCS.o x hmem);rw[hbb] at a6;have HEx:=hd (HE.o.alloc (.cells #[.int .i64 x.base,.slice x.A x.ts.length x.cap] 38));have g0:=hc 0 _ rfl;have g1:=hc 1 _ rfl;rw[Nat.add_zero] at g0;rw[hbb];clear hx hc hmem;go_wp2_with fail
          refine(affine_any x VA vn vc vars _ (HXA.o.keep HEx.o) (HV.o.keep HEx.o) HVN.o).mono ?_
          rintro r w' ⟨rfl,hE⟩;have HE3:=hd (HEx.o.trans hE);clear hE;generalize hax:affE vars x=ax;have HAX:=hd hax;clear hax;by_cases ha0:ax=0
          ·subst ha0;go_wp2_with fail
           go_roundw
           case rel=>
            refine⟨k+1,by go_num,by omega,HE3,hd fun j e hj he=>?_⟩
            rcases Nat.lt_or_ge j k with h1|h1
            ·exact HN2.o j e h1 he
            ·have:j=k:=by omega
             subst this;have:=HXK.o.symm.trans he;cases this
             exact HAX.o
           case measure=>simp[intOf];omega
          ·have HF:=hd (HH2.o.trans (HG2.o.trans ((firstE_at HXK.o HN2.o (by rw[HAX.o];exact ha0)).trans HAX.o)));have ha0':(ax==0)=false:=by simpa using ha0
           go_wp2_with fail
           go_ret
           exact⟨ret_int HF.o.symm,HE3.o⟩
         ·have HF:=hd (HH2.o.trans (HG2.o.trans (firstE_ok HM.o fun i e hi he=>HN2.o i e (by omega) he)));go_wp2_with fail
          go_ret
          exact⟨ret_int HF.o.symm,HE.o⟩
      ·have HG:=hd (fieldsE_3 (vars:=vars) (nb:=nb) (b:=b) hk);have hc2:=(HC.o.ext HE2.o (by simp)).cell;have hcl2:=(HC.o.ext HE2.o (by simp)).lt;go_wp2_with fail
       cases hq:btw h.buf 0 (nb-1)
       ·have HF:=hd (HH2.o.trans (HG.o.trans (if_pos hq)));have hq2:¬(0<=h.buf/\h.buf<=(nb:Int)-1):=fun h=>by rw[btw_iff.2 h] at hq;cases hq
        clear hq;by_cases h6:h.buf<0
        ·have e6:decide (h.buf<0)=true:=by simpa using h6
         go_quiet (fail)
         go_wp2_with fail
         go_ret
         exact⟨ret_int HF.o.symm,HE2.o.drewN _⟩
        ·have e6:decide (h.buf<0)=false:=by simpa using h6
         have e7:decide ((nb:Int)<=h.buf)=true:=by simp;omega
         go_quiet (fail)
         go_wp2_with fail
         go_ret
         exact⟨ret_int HF.o.symm,HE2.o.drewN _⟩
       ·have HG2:=hd (HG.o.trans (if_neg (by rw[hq];simp)));have hq2:=btw_iff.1 hq;clear hq HG;have e6:decide (h.buf<0)=false:=by simp;omega
        have e7:decide ((nb:Int)<=h.buf)=false:=by simp;omega
        go_quiet (fail)
        have HE3:=hd (HE2.o.drewN nq);have HB3:=hd (HB2.o.drewN nq);generalize World.drewN w2 nq=w3 at *;have q3:=HB3.o.cell;have ql3:=HB3.o.lt;clear q2 ql hc2 hcl2;go_wp2_with fail
        refine(affine_any h.at_ VA vn vc vars _ (HA.o.keep HE3.o) (HV.o.keep HE3.o) HVN.o).mono ?_
        rintro r w4 ⟨rfl,hE⟩;have HE4:=hd (HE3.o.trans hE);have HB4:=hd (HB3.o.ext hE (by simp));clear hE q3 ql3;generalize hax:affE vars h.at_=ax;have HAX:=hd hax;clear hax;by_cases ha0:ax=0
        ·subst ha0;have HG3:=hd (HG2.o.trans (if_pos HAX.o));have q4:=HB4.o.cell;have ql4:=HB4.o.lt;have HE5:=hd (HE4.o.alloc (.cells #[.int .i64 0] 3));have HB5:=hd (HB4.o.alloc (.cells #[.int .i64 0] 3));have HM5:=hd (Blk.new w4 3 #[.int .i64 0]);have hle4:=HE4.o.size;have HWV:=hd (fun W (hW:Blk W s0 43 arr)=>HW.o W s0 hW);have HME:=hd (measure_any h.val 0 1 w (w4.alloc (.cells #[.int .i64 0] 3)) w4.heap.size HVL.o HE5.o hle4 (by omega) (by omega) HM5.o);rw[exV_arr] at HME;have HEX:=hd (fun W (hW:Ext [] w W)=>expr_any h.val vars VA vn vc W cb bA nb bc before (HVL.o.keep hW) (HV.o.keep hW) HVN.o (HC.o.ext hW (by simp)) hnb);rw[exV_arr] at HEX
         go_wp2_with (
          refine wpList_load_wide rfl 41 _ rfl s0 11 rfl (exArr h.val) (HWV.o _ HB5.o) _ Tryz.underlying41 rfl infoEx ?_)
         refine HME.o.mono ?_
         rintro r w6 ⟨m6,rfl,hE,hM,-⟩;have HE6:=hd (keep0 HE5.o hE (by simp;omega));have HB6:=hd (HB5.o.ext hE (by simp;omega));clear hE hM q4 ql4;have q6:=HB6.o.cell;have ql6:=HB6.o.lt;cases hf:fits 0 1 h.val
         ·have HF:=hd (HH2.o.trans (HG3.o.trans (if_neg (by rw[hf];simp))));clear hf;go_wp2_with fail
          go_ret
          exact⟨ret_int HF.o.symm,HE6.o⟩
         ·have HF:=hd (HH2.o.trans (HG3.o.trans (if_pos hf)));clear hf
          go_wp2_with (
           refine wpList_load_wide rfl 41 _ rfl s0 11 rfl (exArr h.val) (HWV.o _ HB6.o) _ Tryz.underlying41 rfl infoEx ?_)
          refine(HEX.o _ HE6.o).mono ?_
          rintro r w7 ⟨rfl,hE⟩;have HE7:=hd (HE6.o.trans hE);clear hE;go_wp2_with fail
          go_ret
          exact⟨ret_int HF.o.symm,HE7.o⟩
        ·have HF:=hd (HH2.o.trans (HG2.o.trans ((if_neg (by rw[HAX.o];exact ha0)).trans HAX.o)));have ha0':(ax==0)=false:=by simpa using ha0
         have q4:=HB4.o.cell;have ql4:=HB4.o.lt;go_wp2_with fail
         go_ret
         exact⟨ret_int HF.o.symm,HE4.o⟩
     ·have HF:=hd (headE_3 HQ1.o HK.o hu (nb:=nb));clear hu;go_wp2_with fail
      go_ret
      exact⟨ret_int HF.o.symm,HE2.o⟩
end Go.Proofs.YtfppibmloloakaaGreatDoor
