import Derived.Test.YtfppibmloloakaaGreatDoorP03
namespace Go.Proofs.YtfppibmloloakaaGreatDoor
open Go.RowKit Go.Proofs.Tryz
set_option linter.all false
theorem expr_cases (vars:List ByteArray)(nb:Nat)(h:EH)(ks:List Ex) :
  (kidsN h.k h.op<0->exprE vars nb (.mk h ks)=4)/\
  (0<=kidsN h.k h.op->(plainX h&&decide ((ks.length:Int)=kidsN h.k h.op))=false->exprE vars nb (.mk h ks)=3)/\
  (0<=kidsN h.k h.op->plainX h=true->(ks.length:Int)=kidsN h.k h.op->rangeX h=false->exprE vars nb (.mk h ks)=9)/\
  (0<=kidsN h.k h.op->plainX h=true->(ks.length:Int)=kidsN h.k h.op->rangeX h=true->((h.k=3\/h.k=4)/\¬(0<=h.buf/\h.buf<nb))->exprE vars nb (.mk h ks)=1)/\
  (0<=kidsN h.k h.op->plainX h=true->(ks.length:Int)=kidsN h.k h.op->rangeX h=true->¬((h.k=3\/h.k=4)/\¬(0<=h.buf/\h.buf<nb))->headX vars nb h ks.length=affE vars h.at_):=by
 have e4:kidsN h.k h.op<0->headX vars nb h ks.length=4:=fun h1=>by unfold headX;rw[if_pos h1]
 have e3:0<=kidsN h.k h.op->(plainX h&&decide ((ks.length:Int)=kidsN h.k h.op))=false->headX vars nb h ks.length=3:=fun h1 h2=>by unfold headX formX;rw[if_neg (by omega),if_pos h2]
 have e9:0<=kidsN h.k h.op->plainX h=true->(ks.length:Int)=kidsN h.k h.op->rangeX h=false->headX vars nb h ks.length=9:=fun h1 h2 h3 h4=>by unfold headX formX;rw[if_neg (by omega),if_neg (by simp[h2,h3]),if_pos h4]
 have e1:0<=kidsN h.k h.op->plainX h=true->(ks.length:Int)=kidsN h.k h.op->rangeX h=true->((h.k=3\/h.k=4)/\¬(0<=h.buf/\h.buf<nb))->headX vars nb h ks.length=1:=fun h1 h2 h3 h4 h5=>by unfold headX formX bufX;rw[if_neg (by omega),if_neg (by simp[h2,h3]),if_neg (by simp[h4]),if_pos (decide_eq_true h5)]
 have ea:0<=kidsN h.k h.op->plainX h=true->(ks.length:Int)=kidsN h.k h.op->rangeX h=true->¬((h.k=3\/h.k=4)/\¬(0<=h.buf/\h.buf<nb))->headX vars nb h ks.length=affE vars h.at_:=fun h1 h2 h3 h4 h5=>by unfold headX formX bufX;rw[if_neg (by omega),if_neg (by simp[h2,h3]),if_neg (by simp[h4]),if_neg (by rw[decide_eq_true_eq];exact h5)]
 have eq:exprE vars nb (.mk h ks)=if headX vars nb h ks.length=0 then exprEL vars nb ks else headX vars nb h ks.length:=by rw[exprE]
 refine⟨fun h1=>?_,fun h1 h2=>?_,fun h1 h2 h3 h4=>?_,fun h1 h2 h3 h4 h5=>?_,ea⟩
 ·rw[eq,e4 h1];rfl
 ·rw[eq,e3 h1 h2];rfl
 ·rw[eq,e9 h1 h2 h3 h4];rfl
 ·rw[eq,e1 h1 h2 h3 h4 h5];rfl
theorem expr_bad {vars:List ByteArray}{nb:Nat}{h:EH}{ks:List Ex}(hx:headX vars nb h ks.length≠0):exprE vars nb (.mk h ks)=headX vars nb h ks.length:=by rw[exprE,if_neg hx]
theorem expr_good {vars:List ByteArray}{nb:Nat}{h:EH}{ks:List Ex}(hx:headX vars nb h ks.length=0):exprE vars nb (.mk h ks)=firstE (exprE vars nb) ks:=by rw[exprE,if_pos hx,exprEL_first]
set_option maxHeartbeats 8000000 in
set_option maxRecDepth 100000 in
theorem expr_any:∀(e:Ex) (vars:List ByteArray) (VA:Option Addr) (vn vc:Nat) (w:World) (cb:Nat) (bA:Option Addr) (nb bc:Nat) (bf:Int),ExIn w e->SeqIn w VA 1 sC vars->vars.length=vn->Blk w cb 238 #[.slice bA nb bc,.int .i64 bf]->nb<=1000000->
  Calls Tryz.prog 221 #[.pointer (some ⟨cb,0,none⟩),exV e,.slice VA vn vc] w (ErrP (exprE vars nb e) w):=by
 intro e
 refine ex_ind (P:=fun e=>∀(vars:List ByteArray) (VA:Option Addr) (vn vc:Nat) (w:World) (cb:Nat) (bA:Option Addr) (nb bc:Nat) (bf:Int),ExIn w e->SeqIn w VA 1 sC vars->vars.length=vn->Blk w cb 238 #[.slice bA nb bc,.int .i64 bf]->nb<=1000000->
  Calls Tryz.prog 221 #[.pointer (some ⟨cb,0,none⟩),exV e,.slice VA vn vc] w (ErrP (exprE vars nb e) w)) ?_ e
 intro h ks ih vars VA vn vc w cb bA nb bc bf hX hV hvn hC hnb;have HI:=hd ih;have HX:=hd hX;have HR:=hd hX.row;have HA:=hd hX.at
 have HV:=hd hV;have HVN:=hd hvn;have HC:=hd hC;have hn9:ks.length<=1000000:=hX.row.1;have hcl:=hC.lt;clear ih hX hV hvn hC;show Calls _ _ #[_,exHV h ks.length,_] _ _
 generalize hn:ks.length=n at *;have HN:=hd hn;clear hn;have HE0:=hd ((Ext.refl [] w).alloc (.cells (exHA h n) 41));have HB0:=hd (Blk.new w 41 (exHA h n));have HKO:=hd (fun W=>kidsOf_any h n W);have HPL:=hd (fun W=>plainExpr_any h n W);have HRG:=hd (fun W=>exprRange_any h n W);obtain⟨x0,x1,x2,x3,x4,x5,x6,⟨y0,y1,y2,y3⟩,x8,x9⟩:=h;dsimp only[exHV,exHA] at *;go_enter Tryz.func221,Tryz.ntmps221
 go_wp2_with fail
 generalize World.alloc w _=w1 at *;generalize hs:w.heap.size=s at *;refine(HKO.o _).mono ?_
 rintro r w2 ⟨rfl,hE⟩;have HE2:=hd (HE0.o.trans hE);have HB2:=hd (HB0.o.ext hE (by simp));clear hE HB0 HE0;have q2:=HB2.o.cell;have ql:=HB2.o.lt;have HCS:=hd (expr_cases vars nb ⟨x0,x1,x2,x3,x4,x5,x6,⟨y0,y1,y2,y3⟩,x8,x9⟩ ks);generalize hkn:kidsN x0 x1=kn at HPL⊢;have HKN:=hd hkn;clear hkn;by_cases hk:kn<0
 ·have HF:=hd (HCS.o.1 (by rw[HKN.o];exact hk));have hk':decide (kn<0)=true:=by simpa using hk
  go_wp2_with fail
  go_ret
  exact⟨ret_int HF.o.symm,HE2.o⟩
 ·have hk':decide (kn<0)=false:=by simpa using hk
  have HK:Hd (¬kn<0):=hd hk;go_wp2_with fail
  refine(HPL.o _ (by omega)).mono ?_
  rintro r w3 ⟨rfl,hE⟩;have HE3:=hd (HE2.o.trans hE);have HB3:=hd (HB2.o.ext hE (by simp));clear hE q2 ql hk hk';have q3:=HB3.o.cell;have ql:=HB3.o.lt;cases hp:plainX ⟨x0,x1,x2,x3,x4,x5,x6,⟨y0,y1,y2,y3⟩,x8,x9⟩ with
  | false=>
   have HF:=hd (HCS.o.2.1 (by rw[HKN.o];have:=HK.o;omega) (by rw[hp];rfl));clear hp;go_wp2_with fail
   go_ret
   exact⟨ret_int HF.o.symm,HE3.o⟩
  | true=>
   have HPX:=hd hp;clear hp;by_cases hlen:(n:Int)=kn
   ·have HLN:Hd ((ks.length:Int)=kidsN x0 x1):=hd (by rw[HN.o,HKN.o,hlen]);subst hlen;go_wp2_with fail
    refine(HRG.o _).mono ?_
    rintro r w4 ⟨rfl,hE⟩;have HE4:=hd (HE3.o.trans hE);have HB4:=hd (HB3.o.ext hE (by simp));clear hE q3 ql;have q4:=HB4.o.cell;have ql:=HB4.o.lt;cases hr:rangeX ⟨x0,x1,x2,x3,x4,x5,x6,⟨y0,y1,y2,y3⟩,x8,x9⟩ with
    | false=>
     have HF:=hd (HCS.o.2.2.1 (by rw[HKN.o];have:=HK.o;omega) HPX.o HLN.o hr);clear hr;go_wp2_with fail
     go_ret
     exact⟨ret_int HF.o.symm,HE4.o⟩
    | true=>
     have HRX:=hd hr;clear hr;have hc4:=(HC.o.ext HE4.o (by simp)).cell;have hcl4:=(HC.o.ext HE4.o (by simp)).lt;go_wp2_with fail
     by_cases hbx:(x0=3\/x0=4)/\¬(0<=x6/\x6<nb)
     ·have HF:=hd (HCS.o.2.2.2.1 (by rw[HKN.o];have:=HK.o;omega) HPX.o HLN.o HRX.o hbx);have hcs:(x0=3/\x6<0)\/(x0=4/\x6<0)\/(x0=3/\0<=x6/\(nb:Int)<=x6)\/(x0=4/\0<=x6/\(nb:Int)<=x6):=by omega
      clear hbx;rcases hcs with⟨rfl,h6⟩|⟨rfl,h6⟩|⟨rfl,h5,h6⟩|⟨rfl,h5,h6⟩
      all_goals
       first|(have e6:decide (x6<0)=true:=(by simpa using h6))|(have e6:decide (x6<0)=false:=(by simpa using h5);have e7:decide ((nb:Int)<=x6)=true:=(by simpa using h6))
       go_quiet (fail)
       go_wp2_with fail
       go_ret
       exact⟨ret_int HF.o.symm,HE4.o.drewN _⟩
     ·have HH:=hd (HCS.o.2.2.2.2 (by rw[HKN.o];have:=HK.o;omega) HPX.o HLN.o HRX.o hbx);have hcs:(x0≠3/\x0≠4)\/(x0=3/\0<=x6/\x6<nb)\/(x0=4/\0<=x6/\x6<nb):=by omega
      clear hbx;rcases hcs with⟨h3,h4⟩|⟨rfl,h5,h6⟩|⟨rfl,h5,h6⟩
      all_goals
       first
        | (
          have e3:(x0==3)=false:=(by simpa using h3);have e4:(x0==4)=false:=(by simpa using h4);clear h3 h4)
        | (
          have e6:decide (x6<0)=false:=(by simpa using h5);have e7:decide ((nb:Int)<=x6)=false:=(by simpa using h6))
       go_quiet (fail)
       have HE5:=hd (HE4.o.drewN nq);have HB5:=hd (HB4.o.drewN nq);generalize World.drewN w4 nq=w5 at *;have q5:=HB5.o.cell;have ql5:=HB5.o.lt;clear q4 ql hc4 hcl4;go_wp2_with fail
       refine(affine_any ⟨y0,y1,y2,y3⟩ VA vn vc vars _ (HA.o.keep HE5.o) (HV.o.keep HE5.o) HVN.o).mono ?_
       rintro r w6 ⟨rfl,hE⟩;have HE6:=hd (HE5.o.trans hE);have HB6:=hd (HB5.o.ext hE (by simp));clear hE q5 ql5;have q6:=HB6.o.cell;have ql6:=HB6.o.lt;generalize hax:affE vars ⟨y0,y1,y2,y3⟩=ax;have HHX:=hd (HH.o.trans hax);clear hax;by_cases ha0:ax=0
       ·subst ha0;have HG:=hd (expr_good HHX.o);have HEs:=HE6;clear HHX HH;go_wp2_with fail
        clear q6 ql6;go_loopw [66] (fun i wr=>∃k:Nat,i=.int .i64 k/\k<=n/\Hd (Ext [] w wr)/\Hd (∀(j:Nat) (e:Ex),j<k->ks[j]? = some e->exprE vars nb e=0)) (fun i _=>(n-intOf i).toNat)
        case atStart=>exact⟨0,rfl,Nat.zero_le _,HEs,hd fun j x hj=>absurd hj (by omega)⟩
        case round=>
         obtain⟨k,rfl,hk,HE,HN2⟩:=hrel;clear HEs;rename World=>wq
         by_cases hlt:k<n
         ·obtain⟨b,x,rfl,hx,hc⟩:=(HR.o.keep HE.o).at (i:=k) (by have:=HN.o;omega);have HXK:=hd hx;have hmem:=List.mem_of_getElem? hx;have HEx:=hd (HE.o.alloc (.cells (exArr x) 41));have HCC:=hd (HI.o x hmem vars VA vn vc (wq.alloc (.cells (exArr x) 41)) cb bA nb bc bf ((HX.o.kid hmem).keep HEx.o) (HV.o.keep HEx.o) HVN.o (HC.o.ext HEx.o (by simp)) hnb);have HW:=hd (fun j v hv=>hc j v (by rw[exC_arr];exact hv):∀(j:Nat) (v:Value),(exArr x).toList[j]? = some v->wq.cell? ⟨b,k*10+j,none⟩=some v);have HW2:=hd (Blk.new wq 41 (exArr x)).wide;rw[exV_arr] at HCC;clear hx hc hmem
          go_wp2_with (first
           | refine wpList_load_wide rfl 41 _ rfl b (k*10) rfl (exArr x) HW.o _ Tryz.underlying41 rfl infoEx ?_
           | refine wpList_make_wide rfl rfl 41 _ _ rfl rfl zEx (zEx_run _) (exArr x) rfl rfl infoEx rfl (exArr_one x) ?_
           | refine wpList_load_wide rfl 41 _ rfl wq.heap.size 0 rfl (exArr x) HW2.o _ Tryz.underlying41 rfl infoEx ?_)
          refine HCC.o.mono ?_
          rintro r w' ⟨rfl,hE⟩;have HE3:=hd (HEx.o.trans hE);clear hE HCC;generalize hax:exprE vars nb x=ax;have HAX:=hd hax;clear hax;by_cases ha0:ax=0
          ·subst ha0;go_wp2_with fail
           go_roundw
           case rel=>
            refine⟨k+1,by go_num,by omega,HE3,hd fun j e hj he=>?_⟩
            rcases Nat.lt_or_ge j k with h1|h1
            ·exact HN2.o j e h1 he
            ·have:j=k:=by omega
             subst this;have:=HXK.o.symm.trans he;cases this
             exact HAX.o
           case measure=>simp[intOf];omega
          ·have HF:=hd (HG.o.trans ((firstE_at HXK.o HN2.o (by rw[HAX.o];exact ha0)).trans HAX.o));have ha0':(ax==0)=false:=by simpa using ha0
           go_wp2_with fail
           go_ret
           exact⟨ret_int HF.o.symm,HE3.o⟩
         ·have HF:=hd (HG.o.trans (firstE_ok HN.o fun i e hi he=>HN2.o i e (by omega) he));go_wp2_with fail
          go_ret
          exact⟨ret_int HF.o.symm,HE.o⟩
       ·have HF:=hd ((expr_bad (by rw[HHX.o];exact ha0)).trans HHX.o);have ha0':(ax==0)=false:=by simpa using ha0
        go_wp2_with fail
        go_ret
        exact⟨ret_int HF.o.symm,HE6.o⟩
   ·have HF:=hd (HCS.o.2.1 (by rw[HKN.o];have:=HK.o;omega) (by rw[HPX.o,HN.o,HKN.o];simpa using hlen));have hlen':((n:Int)==kn)=false:=by simpa using hlen
    go_wp2_with fail
    go_ret
    exact⟨ret_int HF.o.symm,HE3.o⟩
end Go.Proofs.YtfppibmloloakaaGreatDoor
