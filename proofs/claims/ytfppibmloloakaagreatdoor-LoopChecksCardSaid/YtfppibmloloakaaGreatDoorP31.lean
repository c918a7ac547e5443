import Derived.Test.YtfppibmloloakaaGreatDoorP30
import Derived.Test.YtfppibmloloakaaGreatDoorP15
namespace Go.Proofs.YtfppibmloloakaaGreatDoor
open Go.RowKit Go.Proofs.Tryz
set_option linter.all false
theorem enters_headOneR:∀args w,(callFunc 126 args).run Tryz.prog w=.ok (.enter 126 args) w:=by
 obtain⟨c,hc⟩:∃c,Tryz.f126.body=some c:=⟨_,rfl⟩;exact fun args w=>enters_of Tryz.func126 (by kernel_rfl) hc args w
set_option maxRecDepth 100000 in
theorem headOneR_any (h:SH)(n:Nat)(w:World):Calls Tryz.prog 126 #[stHV h n] w fun e w'=>e=.returned (.bool (decide (h.k≠3)))/\Ext [] w w':=by
 obtain⟨a0,-⟩:=stArr_get h n h.val.h h.val.ks.length;unfold stHV;generalize stArr h n h.val.h h.val.ks.length=arr at *;go_enter Tryz.func126,Tryz.ntmps126
 go_wp2_with fail
 go_ret
 exact⟨ret_bool (by by_cases h:h.k=3<;>simp[h]),(Ext.refl _ _).alloc _⟩
set_option maxHeartbeats 8000000 in
set_option maxRecDepth 100000 in
theorem fieldsR_any (h:SH)(b:List St)(vars:List ByteArray)(VA:Option Addr)(vn vc:Nat)(w:World)(cb:Nat)(bA:Option Addr)(nb bc:Nat)(v1:Value)(bf:Int)(hX:StIn w (.mk h b))(hp:parts h.val<=1000000)(hV:SeqIn w VA 1 sC vars)(hvn:vars.length=vn)
  (hC:Blk w cb 78 #[.slice bA nb bc,v1,.int .i64 bf]) (hnb:nb<=1000000) (hk1:btw h.k 1 3=true) :
  Calls Tryz.prog 82 #[.pointer (some ⟨cb,0,none⟩),stHV h b.length,.slice VA vn vc] w (ErrP (fieldsE vars nb h b) w):=by
 obtain⟨hc,hcs,ha,hv,hpl,hz,hb,hs⟩:=hX.all;have HCN:=hd hc;have HCS:=hd hcs;have HA:=hd ha;have HVL:=hd hv;have HZ:=hd hz;have HBR:=hd hb;have HV:=hd hV;have HVN:=hd hvn;have HC:=hd hC;have HPT:=hd hp;have hcl:=hC.lt;have hk3:=btw_iff.1 hk1;have hk4:h.k=1\/h.k=2\/h.k=3:=by omega
 clear hX hc hcs ha hv hpl hz hb hs hV hvn hC hp hk1 hk3;unfold stHV;obtain⟨a0,a1,a2,a3,a4,a5,a6,a7,a8,a9,aa⟩:=stArr_get h b.length h.val.h h.val.ks.length;have HW:=hd (fun W s0=>isWideSt (W:=W) (s0:=s0) h b.length h.val.h h.val.ks.length);have HB0:=hd (Blk.new w 43 (stArr h b.length h.val.h h.val.ks.length));have HE0:=hd ((Ext.refl [] w).alloc (.cells (stArr h b.length h.val.h h.val.ks.length) 43));have HSZ:=hd (show(Tryz.prog.info? 43).map (·.size)=some (stArr h b.length h.val.h h.val.ks.length).size from infoSt);generalize stArr h b.length h.val.h h.val.ks.length=arr at *;go_enter Tryz.func82,Tryz.ntmps82
 go_upto_region 1 with fail
 generalize World.alloc w _=w1 at *;generalize hs0:w.heap.size=s0 at *;have qh:=HB0.o.cell;have ql:=HB0.o.lt;generalize hR:fieldsE vars nb h b=R at *;have HH:=hd (show R=fieldsE vars nb h b from hR.symm);clear hR;rcases hk4 with hk|hk|hk
 ·have HG:=hd (fieldsE_1 (vars:=vars) (nb:=nb) (b:=b) hk);go_wp2_with fail
  refine(named_any h.var _ (by have:=HZ.o;omega)).mono ?_
  rintro r w3 ⟨rfl,hE⟩;have HE3:=hd (HE0.o.trans hE);have HB3:=hd (HB0.o.ext hE (by simp));clear hE qh ql HB0;have q3:=HB3.o.cell;have ql:=HB3.o.lt;cases hn:nameB h.var
  ·have HF:=hd (HH.o.trans (HG.o.trans (if_pos hn)));clear hn;go_wp2_with fail
   go_ret
   exact⟨ret_int HF.o.symm,HE3.o⟩
  ·have HG2:=hd (HG.o.trans (if_neg (by rw[hn];simp)));clear hn HG;go_wp2_with fail
   refine(sHas_any VA vn vc vars h.var _ (HV.o.keep HE3.o) HVN.o).mono ?_
   rintro r w4 ⟨rfl,hE⟩;have HE4:=hd (HE3.o.trans hE);have HB4:=hd (HB3.o.ext hE (by simp));clear hE q3 ql HB3;have q4:=HB4.o.cell;have ql:=HB4.o.lt;cases hn:hasS vars h.var
   ·have HG3:=hd (HG2.o.trans (if_neg (by rw[hn];simp)));clear hn HG2;go_upto_region 16 with fail
    go_cut [62] (fun s wx=>s=.bool (decide (bdd h.lo=false\/bdd h.hi=false\/btw h.step 1 100000=false))/\wx=w4)
    case first=>
     cases h1:bdd h.lo
     ·have H1:=hd h1;have H1b:=hd (show btw h.lo (-100000) 100000=_ from h1);go_wp2_with fail
      refine(within_any _ _ _ _).mono ?_
      rintro r w' ⟨rfl,rfl⟩;rw[H1b.o];go_wp2_with fail
      go_meet
      exact⟨by simp[H1.o],rfl⟩
     ·have H1:=hd h1;have H1b:=hd (show btw h.lo (-100000) 100000=_ from h1);cases h2:bdd h.hi
      ·have H2:=hd h2;have H2b:=hd (show btw h.hi (-100000) 100000=_ from h2);go_wp2_with fail
       refine(within_any _ _ _ _).mono ?_
       rintro r w' ⟨rfl,rfl⟩;rw[H1b.o];go_wp2_with fail
       refine(within_any _ _ _ _).mono ?_
       rintro r w' ⟨rfl,rfl⟩;rw[H2b.o];go_wp2_with fail
       go_meet
       exact⟨by simp[H2.o],rfl⟩
      ·have H2:=hd h2;have H2b:=hd (show btw h.hi (-100000) 100000=_ from h2);go_wp2_with fail
       refine(within_any _ _ _ _).mono ?_
       rintro r w' ⟨rfl,rfl⟩;rw[H1b.o];go_wp2_with fail
       refine(within_any _ _ _ _).mono ?_
       rintro r w' ⟨rfl,rfl⟩;rw[H2b.o];clear h1 h2;go_wp2_with fail
       refine(within_any _ _ _ _).mono ?_
       rintro r w' ⟨rfl,rfl⟩;generalize hst:btw h.step 1 100000=bs;have HST:=hd hst;clear hst;cases bs
       all_goals
        go_wp2_with fail
        go_meet
        exact⟨by simp[H1.o,H2.o,HST.o],rfl⟩
    case rest=>
     obtain⟨rfl,rfl⟩:=hcut;by_cases hb9:bdd h.lo=false\/bdd h.hi=false\/btw h.step 1 100000=false
     ·have HF:=hd (HH.o.trans (HG3.o.trans (if_pos hb9)));rw[decide_eq_true hb9];clear hb9;go_wp2_with fail
      go_ret
      exact⟨ret_int HF.o.symm,HE4.o⟩
     ·have HG4:=hd (HG3.o.trans (if_neg hb9));rw[decide_eq_false hb9];clear hb9 HG3
      have HST:=hd (fun W hW=>st_has h.A b.length h.cap b 126 #[] noStore W (HBR.o.keep hW) rfl ⟨enters_headOneR,fun i x hx w' hw'=>by
       obtain⟨g,gs⟩:=x;exact headOneR_any g gs.length w'⟩)
      cases hv:h.vec
      ·have HF:=hd (HH.o.trans (HG4.o.trans (if_neg (by rw[hv];simp))));rw[hv] at a5;go_wp2_with fail
       go_ret
       exact⟨ret_int HF.o.symm,HE4.o⟩
      ·have HG5:=hd (HG4.o);rw[hv] at a5;have HVV:=hd hv;clear hv;go_wp2_with fail
       refine(HST.o _ HE4.o).mono ?_
       rintro r w5 ⟨rfl,hE⟩;have HE5:=hd (HE4.o.trans hE);clear hE;cases hn:b.any noStore
       ·have HF:=hd (HH.o.trans (HG5.o.trans (if_neg (by rw[hn];simp))));clear hn;go_wp2_with fail
        go_ret
        exact⟨ret_int HF.o.symm,HE5.o⟩
       ·have HF:=hd (HH.o.trans (HG5.o.trans (if_pos ⟨HVV.o,hn⟩)));clear hn;go_wp2_with fail
        go_ret
        exact⟨ret_int HF.o.symm,HE5.o⟩
   ·have HF:=hd (HH.o.trans (HG2.o.trans (if_pos hn)));clear hn;go_wp2_with fail
    go_ret
    exact⟨ret_int HF.o.symm,HE4.o⟩
 ·have HG:=hd (fieldsE_2 (vars:=vars) (nb:=nb) (b:=b) hk);have hcn:=HCN.o.1;generalize hm:h.conds.length=m at *;have HM:=hd hm;clear hm;cases hq:btw (m:Int) 1 4
  ·have HF:=hd (HH.o.trans (HG.o.trans (if_pos hq)));have HQ:=hd hq;clear hq;go_wp2_with fail
   refine(within_any _ _ _ _).mono ?_
   rintro r w' ⟨rfl,rfl⟩;rw[HQ.o];go_wp2_with fail
   go_ret
   exact⟨ret_int HF.o.symm,HE0.o⟩
  ·have HG2:=hd (HG.o.trans (if_neg (by rw[hq];simp)));have hq2:=btw_iff.1 hq;have hq3:1<=m/\m<=4:=by omega
   have HQ:=hd hq;clear hq hq2 HG;go_wp2_with fail
   refine(within_any _ _ _ _).mono ?_
   rintro r w' ⟨rfl,rfl⟩;rw[HQ.o];go_wp2_with fail
   clear qh ql;go_loopw [97] (fun i wr=>∃k:Nat,i=.int .i64 k/\k<=m/\Hd (Ext [] w wr)/\Hd (∀(j:Nat) (a:Af),j<k->h.conds[j]? = some a->affE vars a=0)) (fun i _=>(m-intOf i).toNat)
   case atStart=>exact⟨0,rfl,Nat.zero_le _,HE0,hd fun j x hj=>absurd hj (by omega)⟩
   case round=>
    obtain⟨k,rfl,hk5,HE,HN2⟩:=hrel;rename World=>wq
    by_cases hlt:k<m
    ·obtain⟨bb,x,hbb,hx,hc⟩:=(HCN.o.keep HE.o).at (i:=k) (by have:=HM.o;omega);have HXK:=hd hx;have hmem:=List.mem_of_getElem? hx;have HXA:=hd (HCS.o x hmem);rw[hbb] at a6;have HEx:=hd (HE.o.alloc (.cells #[.int .i64 x.base,.slice x.A x.ts.length x.cap] 38));have g0:=hc 0 _ rfl;have g1:=hc 1 _ rfl;rw[Nat.add_zero] at g0;rw[hbb];clear hx hc hmem;go_wp2_with fail
     refine(affineR_any x VA vn vc vars _ (HXA.o.keep HEx.o) (HV.o.keep HEx.o) HVN.o).mono ?_
     rintro r w' ⟨rfl,hE⟩;have HE3:=hd (HEx.o.trans hE);clear hE;generalize hax:affE vars x=ax;have HAX:=hd hax;clear hax;by_cases ha0:ax=0
     ·subst ha0;go_wp2_with fail
      go_roundw
      case rel=>
       refine⟨k+1,by go_num,by omega,HE3,hd fun j e hj he=>?_⟩
       rcases Nat.lt_or_ge j k with h1|h1
       ·exact HN2.o j e h1 he
       ·have:j=k:=by omega
        subst this;have:=HXK.o.symm.trans he;cases this
        exact HAX.o
      case measure=>simp[intOf];omega
     ·have HF:=hd (HH.o.trans (HG2.o.trans ((firstE_at HXK.o HN2.o (by rw[HAX.o];exact ha0)).trans HAX.o)));have ha0':(ax==0)=false:=by simpa using ha0
      go_wp2_with fail
      go_ret
      exact⟨ret_int HF.o.symm,HE3.o⟩
    ·have HF:=hd (HH.o.trans (HG2.o.trans (firstE_ok HM.o fun i e hi he=>HN2.o i e (by omega) he)));go_wp2_with fail
     go_ret
     exact⟨ret_int HF.o.symm,HE.o⟩
 ·have HG:=hd (fieldsE_3 (vars:=vars) (nb:=nb) (b:=b) hk);have hc0:=(HC.o.ext HE0.o (by simp)).cell;have hcl0:=(HC.o.ext HE0.o (by simp)).lt;go_wp2_with fail
  refine wp_region_rel 9 (JE _) (Ext []) (kinds []) (by kernel_rfl) (by kernel_rfl) JE.less ?_ JE.start ?_
  ·repeat(first|exact Stays.nil|refine Stays.cons sFix.stays ?_)
  simp only[List.take_succ_cons,List.take_zero,List.drop_succ_cons,List.drop_zero]
  repeat
   refine relAt_det rfl rfl ?_
   apply Exists.intro
   refine⟨fun wr nr hJ=>?_,?_⟩
   ·have q:=(HB0.o.ext hJ (by simp)).cell;have ql:=(HB0.o.ext hJ (by simp)).lt;have qc:=(HC.o.ext (HE0.o.trans hJ) (by simp)).cell;have qcl:=(HC.o.ext (HE0.o.trans hJ) (by simp)).lt;clear hJ;(go_simp;try go_bits)
    first|rfl|exact⟨rfl,rfl⟩
   simp only[Act.put,List.setIfInBounds_toArray,List.set_cons_succ,List.set_cons_zero]
  refine relAt_nil (fun w3 hJ hF=>?_)
  have HE3:=hd (HE0.o.trans hJ);have HB3:=hd (HB0.o.ext hJ (by simp));clear hF hJ qh ql hc0 hcl0;have q3:=HB3.o.cell;have ql3:=HB3.o.lt;go_wp2_with fail
  refine(within_any _ _ _ _).mono ?_
  rintro r w' ⟨rfl,rfl⟩;cases hq:btw h.buf 0 (nb-1)
  ·have HF:=hd (HH.o.trans (HG.o.trans (if_pos hq)));clear hq;go_wp2_with fail
   go_ret
   exact⟨ret_int HF.o.symm,HE3.o⟩
  ·have HG2:=hd (HG.o.trans (if_neg (by rw[hq];simp)));clear hq HG;go_wp2_with fail
   refine(affineR_any h.at_ VA vn vc vars _ (HA.o.keep HE3.o) (HV.o.keep HE3.o) HVN.o).mono ?_
   rintro r w4 ⟨rfl,hE⟩;have HE4:=hd (HE3.o.trans hE);have HB4:=hd (HB3.o.ext hE (by simp));clear hE q3 ql3;generalize hax:affE vars h.at_=ax;have HAX:=hd hax;clear hax;by_cases ha0:ax=0
   ·subst ha0;have HG3:=hd (HG2.o.trans (if_pos HAX.o));have HXT:=hd (fun W (hW:Ext [] w W)=>extent_any h.val W (HVL.o.keep hW) HPT.o);rw[exV_arr] at HXT;have HEX:=hd (fun W (hW:Ext [] w W)=>partR_any h.val vars VA vn vc W cb bA nb bc v1 bf (HVL.o.keep hW) (HV.o.keep hW) HVN.o (HC.o.ext hW (by simp)) hnb);rw[exV_arr] at HEX;have HWV:=hd (fun W (hW:Blk W s0 43 arr)=>HW.o W s0 hW);have q4:=HB4.o.cell;have ql4:=HB4.o.lt
    go_wp2_with (
     refine wpList_load_wide rfl 41 _ rfl s0 11 rfl (exArr h.val) (HWV.o _ HB4.o) _ Tryz.underlying41 rfl infoEx ?_)
    refine(HXT.o _ HE4.o).mono ?_
    rintro r w6 ⟨rfl,hE⟩;have HE6:=hd (HE4.o.trans hE);have HB6:=hd (HB4.o.ext hE (by simp));clear hE q4 ql4;have q6:=HB6.o.cell;have ql6:=HB6.o.lt
    have hft:fits 0 1 h.val=(decide (parts h.val<=32)&&decide (deep h.val<=6)):=by
     unfold fits;rw[Bool.eq_iff_iff];simp;omega
    generalize hpp:parts h.val=pp at *;generalize hdd:deep h.val=dd at *;clear hpp hdd;cases hf:fits 0 1 h.val
    ·have HF:=hd (HH.o.trans (HG3.o.trans (if_neg (by rw[hf];simp))));rw[hf] at hft;clear hf;by_cases h32:32<pp
     ·clear hft;go_wp2_with fail
      go_ret
      exact⟨ret_int HF.o.symm,HE6.o⟩
     ·have h6:6<dd:=by simp at hft;omega
      clear hft;go_wp2_with fail
      go_ret
      exact⟨ret_int HF.o.symm,HE6.o⟩
    ·have HF:=hd (HH.o.trans (HG3.o.trans (if_pos hf)));rw[hf] at hft;have h32:¬32<pp/\¬6<dd:=by simp at hft;omega
     obtain⟨h32,h6⟩:=h32;clear hf hft
     go_wp2_with (
      refine wpList_load_wide rfl 41 _ rfl s0 11 rfl (exArr h.val) (HWV.o _ HB6.o) _ Tryz.underlying41 rfl infoEx ?_)
     refine(HEX.o _ HE6.o).mono ?_
     rintro r w7 ⟨rfl,hE⟩;have HE7:=hd (HE6.o.trans hE);clear hE;go_wp2_with fail
     go_ret
     exact⟨ret_int HF.o.symm,HE7.o⟩
   ·have HF:=hd (HH.o.trans (HG2.o.trans ((if_neg (by rw[HAX.o];exact ha0)).trans HAX.o)));have ha0':(ax==0)=false:=by simpa using ha0
    have q4:=HB4.o.cell;have ql4:=HB4.o.lt;go_wp2_with fail
    go_ret
    exact⟨ret_int HF.o.symm,HE4.o⟩
end Go.Proofs.YtfppibmloloakaaGreatDoor
