import Derived.Test.YtfppibmloloakaaGreatDoorP27
import Derived.Test.YtfppibmloloakaaGreatDoorP17
namespace Go.Proofs.YtfppibmloloakaaGreatDoor
open Go.RowKit Go.Proofs.Tryz
set_option linter.all false
theorem bufOneR_any (x:Bf)(s:ByteArray)(bb:Nat)(w:World)(hc:w.cell? ⟨bb,0,none⟩=some (.string s)):Calls Tryz.prog 76 #[bfV x,.pointer (some ⟨bb,0,none⟩)] w (HasP (eqS x.name s) w):=by
 have hl:=World.block_lt_of_cell? w _ hc;simp only at hl;obtain⟨xa,xb,xc,xd,xe,xf⟩:=x;dsimp only[bfV];go_enter Tryz.func76,Tryz.ntmps76
 go_wp2_with fail
 go_ret
 exact⟨rfl,(Ext.refl _ _).alloc _⟩
theorem bufTwoR_any (x:Int)(w:World):Calls Tryz.prog 79 #[.int .i64 x] w (HasP (!isWd x) w):=by
 go_enter Tryz.func79,Tryz.ntmps79
 go_wp2_with fail
 refine(wordR_any x _).mono ?_
 rintro e w' ⟨rfl,rfl⟩;go_wp2_with fail
 go_ret
 exact⟨rfl,Ext.refl _ _⟩
theorem enters_bufOneR:∀args w,(callFunc 76 args).run Tryz.prog w=.ok (.enter 76 args) w:=by
 obtain⟨c,hc⟩:∃c,Tryz.f76.body=some c:=⟨_,rfl⟩;exact fun args w=>enters_of Tryz.func76 (by kernel_rfl) hc args w
theorem enters_bufTwoR:∀args w,(callFunc 79 args).run Tryz.prog w=.ok (.enter 79 args) w:=by
 obtain⟨c,hc⟩:∃c,Tryz.f79.body=some c:=⟨_,rfl⟩;exact fun args w=>enters_of Tryz.func79 (by kernel_rfl) hc args w
set_option maxHeartbeats 8000000 in
set_option maxRecDepth 100000 in
theorem buffersR_any (fb:Nat)(v1:Value)(bf:Int)(A:Option Addr)(n cap:Nat)(l:List Bf)(w:World)(hfb:Blk w fb 78 #[.slice A n cap,v1,.int .i64 bf])(hR:SeqIn w A 4 bfC l)(hS:∀b∈l,BfIn w b)(hn:l.length=n)(hcp:n<=cap/\cap<=9223372036854775807) :
  Calls Tryz.prog 34 #[.pointer (some ⟨fb,0,none⟩)] w (ErrP (bufsE l) w):=by
 have hn9:n<=1000000:=by have:=hR.1;omega
 have HR:=hd hR;have HFB:=hd hfb;have qf:=hfb.cell;have qfl:=hfb.lt;clear hfb;have HS:=hd hS;have HN:=hd hn;have HV:Hd (bufsE l=if 400<n then 2 else if bufEL [] l=0 then(if 262144<sizes l then 2 else 0) else bufEL [] l):=hd (by unfold bufsE;rw[hn]);clear hR hS hn;by_cases h4:400<n
 ·have HF:=hd (HV.o.trans (if_pos h4));go_enter Tryz.func34,Tryz.ntmps34
  go_wp2_with fail
  go_ret
  exact⟨ret_int HF.o.symm,Ext.refl _ _⟩
 ·have HV2:=hd (HV.o.trans (if_neg h4));clear HV;go_enter Tryz.func34,Tryz.ntmps34
  go_wp2_with fail
  go_loopw [3,19] (fun t i wr=>∃(k:Nat) (z:Int),i=.int .i64 k/\t=.int .i64 z/\k<=n/\0<=z/\z<=k*262144/\Hd (sizes (l.take k)=z)/\Hd (Ext [] w wr)/\Hd (∀(j:Nat) (b:Bf),j<k->l[j]? = some b->bufE ([] ++ l.take j) b=0)) (fun _ i _=>(n-intOf i).toNat)
  case atStart=>exact⟨0,0,rfl,rfl,Nat.zero_le _,Int.le_refl _,by simp,hd rfl,hd (Ext.refl _ _),hd fun j x hj=>absurd hj (by omega)⟩
  case round=>
   clear qf qfl;obtain⟨k,z,rfl,rfl,hk,hz0,hz1,HZ,HE,HN2⟩:=hrel;rename World=>wq
   by_cases hlt:k<n
   ·have HRq:=hd ((HR.o.keep HE.o).less k);obtain⟨b,x,rfl,hx,hc⟩:=(HR.o.keep HE.o).at (i:=k) (by have:=HN.o;omega);have HXK:=hd hx;have hmem:=List.mem_of_getElem? hx;have HXB:=hd (HS.o x hmem);obtain⟨xa,xb,xc,xd,xe,xf⟩:=x;have g0:=hc 0 _ rfl;have g1:=hc 1 _ rfl;have g2:=hc 2 _ rfl;have g3:=hc 3 _ rfl;rw[Nat.add_zero] at g0;dsimp only at g0 g1 g2 g3;have HTK:Hd ((l.take k).length=k):=hd (by rw[List.length_take];have:=HN.o;omega);have HEx:=hd (HE.o.alloc (.cells #[.string xa,.int .i64 xb,.bool xc,.slice xd xf.length xe] 45));have HB0:=hd (Blk.new wq 45 #[.string xa,.int .i64 xb,.bool xc,.slice xd xf.length xe]);have HX0:=hd ((Ext.refl [] wq).alloc (.cells #[.string xa,.int .i64 xb,.bool xc,.slice xd xf.length xe] 45));have hXF:=HXB.o.1.1;clear hx hc hmem;go_wp2_with fail
    generalize World.alloc wq _=w1 at *;generalize hs1:wq.heap.size=s1 at *;refine(named_any xa w1 (by have:=HXB.o.2;simp only at this;omega)).mono ?_
    rintro r w2 ⟨rfl,hE⟩;have HE2:=hd (HEx.o.trans hE);have HB2:=hd (HB0.o.ext hE (by simp));have HX2:=hd (HX0.o.trans hE);clear hE HB0 HEx HX0;have q2:=HB2.o.cell;have ql:=HB2.o.lt;cases hnm:nameB xa
    ·have HBE:=hd (bufE_1 (ah:=[] ++ l.take k) (b:=⟨xa,xb,xc,xd,xe,xf⟩) hnm);have HF:=hd (show bufsE l=5 by rw[HV2.o,bufEL_at HXK.o HN2.o (by rw[HBE.o];omega),HBE.o];rfl);clear hnm;go_wp2_with fail
     go_ret
     exact⟨ret_int HF.o.symm,HE2.o⟩
    ·have HNM:=hd hnm;clear hnm;have qf:=(HFB.o.ext HE2.o (by simp)).cell;have qfl:=(HFB.o.ext HE2.o (by simp)).lt;go_wp2_with fail
     clear qf qfl;have HFB2:=hd (HFB.o.ext HE2.o (by simp));have hc0:w2.cell? ⟨s1,0,none⟩=some (.string xa):=q2 0;refine(bf_has (some ⟨b,0,none⟩) k cap (l.take k) 76 #[.pointer (some ⟨s1,0,none⟩)] (fun x=>eqS x.name xa) w2 (HRq.o.keep HX2.o) HTK.o ⟨enters_bufOneR,fun i y hy w' hw'=>bufOneR_any y xa s1 w' (hw'.held hc0 (List.not_mem_nil))⟩).mono ?_
     rintro r w3 ⟨rfl,hE⟩;have HE3:=hd (HE2.o.trans hE);have HX3:=hd (HX2.o.trans hE);have HB3:=hd (HB2.o.ext hE (by simp));clear hE q2 ql HB2 hc0 HX2;have q3:=HB3.o.cell;have ql:=HB3.o.lt;cases htw:(l.take k).any (fun x=>eqS x.name xa)
     ·have HTW:=hd htw;clear htw;go_upto_region 11 with fail
      go_cut [39] (fun s wx=>s=.bool (!btw xb 1 262144)/\Hd (Ext [] w wx)/\Hd (Ext [] wq wx)/\Hd (Blk wx s1 45 #[.string xa,.int .i64 xb,.bool xc,.slice xd xf.length xe]))
      case first=>
       go_wp2_with fail
       refine(within_any _ _ _ _).mono ?_
       rintro r w' ⟨rfl,rfl⟩;go_wp2_with fail
       go_meet
       exact⟨rfl,HE3,HX3,HB3⟩
      case rest=>
       clear HE3 HX3 HB3 q3 ql;obtain⟨rfl,HE3,HX3,HB3⟩:=hcut;rename World=>w3
       have q3:=HB3.o.cell;have ql:=HB3.o.lt;cases hbz:btw xb 1 262144
       ·have HBE:=hd (bufE_3 (ah:=[] ++ l.take k) (b:=⟨xa,xb,xc,xd,xe,xf⟩) HNM.o HTW.o hbz);have HF:=hd (show bufsE l=9 by rw[HV2.o,bufEL_at HXK.o HN2.o (by rw[HBE.o];omega),HBE.o];rfl);clear hbz;go_wp2_with fail
        go_ret
        exact⟨ret_int HF.o.symm,HE3.o⟩
       ·have HBZ:=hd hbz;obtain⟨hb1,hb2⟩:=btw_iff.1 hbz;clear hbz;go_upto_region 13 with fail
        go_cut [44] (fun s wx=>s=.bool (decide (0<xf.length/\((xf.length:Int)≠xb\/xc=false)))/\Hd (Ext [] w3 wx))
        case first=>
         generalize hfl:xf.length=m at *;clear hfl;cases xc
         all_goals go_wp2_with fail
         all_goals
          go_meet
          refine⟨congrArg Value.bool ?_,hd (Ext.refl _ _)⟩
          first|(rw[Bool.eq_iff_iff];simp;omega)|(simp_all;done)|(simp_all;omega)|(simp;intros;omega)|(rw[Bool.eq_iff_iff];simp;intros;omega)
        case rest=>
         obtain⟨rfl,HE4⟩:=hcut;rename World=>w4
         have HB4:=hd (HB3.o.ext HE4.o (by simp));have HE5:=hd (HE3.o.trans HE4.o);have HX5:=hd (HX3.o.trans HE4.o);clear q3 ql HB3 HE4 HX3;have q4:=HB4.o.cell;have ql:=HB4.o.lt;by_cases hq:0<xf.length/\((xf.length:Int)≠xb\/xc=false)
         ·have HBE:=hd (bufE_4 (ah:=[] ++ l.take k) (b:=⟨xa,xb,xc,xd,xe,xf⟩) HNM.o HTW.o HBZ.o hq);have HF:=hd (show bufsE l=3 by rw[HV2.o,bufEL_at HXK.o HN2.o (by rw[HBE.o];omega),HBE.o];rfl);rw[decide_eq_true hq];clear hq;go_wp2_with fail
          go_ret
          exact⟨ret_int HF.o.symm,HE5.o⟩
         ·have HBE:=hd (bufE_5 (ah:=[] ++ l.take k) (b:=⟨xa,xb,xc,xd,xe,xf⟩) HNM.o HTW.o HBZ.o hq);rw[decide_eq_false hq];clear hq;go_wp2_with fail
          refine(iv_has xd xf.length xe xf 79 #[] (fun x=>!isWd x) w4 (HXB.o.1.keep HE5.o) rfl ⟨enters_bufTwoR,fun i y hy w' hw'=>bufTwoR_any y w'⟩).mono ?_
          rintro r w5 ⟨rfl,hE⟩;have HE6:=hd (HE5.o.trans hE);have HB5:=hd (HB4.o.ext hE (by simp));clear hE q4 ql HB4;have q5:=HB5.o.cell;have ql:=HB5.o.lt;cases had:xf.any (fun x=>!isWd x)
          ·have HBE2:=hd (HBE.o.trans (if_neg (by rw[had];simp)));clear had;go_wp2_with fail
           go_roundw
           case rel=>
            refine⟨k+1,z+xb,by go_num,by first|rfl|go_num,by omega,by omega,by rw[Int.natCast_add];omega,hd (by rw[sizes_take HXK.o,HZ.o]),HE6,hd fun j e hj he=>?_⟩
            rcases Nat.lt_or_ge j k with h1|h1
            ·exact HN2.o j e h1 he
            ·have:j=k:=by omega
             subst this;have:=HXK.o.symm.trans he;cases this
             exact HBE2.o
           case measure=>simp[intOf];omega
          ·have HBE2:=hd (HBE.o.trans (if_pos had));have HF:=hd (show bufsE l=9 by rw[HV2.o,bufEL_at HXK.o HN2.o (by rw[HBE2.o];omega),HBE2.o];rfl);clear had;go_wp2_with fail
           go_ret
           exact⟨ret_int HF.o.symm,HE6.o⟩
     ·have HBE:=hd (bufE_2 (ah:=[] ++ l.take k) (b:=⟨xa,xb,xc,xd,xe,xf⟩) HNM.o htw);have HF:=hd (show bufsE l=6 by rw[HV2.o,bufEL_at HXK.o HN2.o (by rw[HBE.o];omega),HBE.o];rfl);clear htw;go_wp2_with fail
      go_ret
      exact⟨ret_int HF.o.symm,HE3.o⟩
   ·have hkn:k=n:=by omega
    subst hkn;have HT:Hd (l.take k=l):=hd (List.take_of_length_le (by have:=HN.o;omega));have HOK:=hd (bufEL_ok HN.o fun i s hi hs=>HN2.o i s (by omega) hs);have HV3:=hd (HV2.o.trans (if_pos HOK.o));rw[HT.o] at HZ;by_cases hz:262144<z
    ·have HF:=hd (HV3.o.trans (if_pos (by rw[HZ.o];exact hz)));go_wp2_with fail
     go_ret
     exact⟨ret_int HF.o.symm,HE.o⟩
    ·have HF:=hd (HV3.o.trans (if_neg (by rw[HZ.o];exact hz)));go_wp2_with fail
     go_ret
     exact⟨ret_int HF.o.symm,HE.o⟩
end Go.Proofs.YtfppibmloloakaaGreatDoor
