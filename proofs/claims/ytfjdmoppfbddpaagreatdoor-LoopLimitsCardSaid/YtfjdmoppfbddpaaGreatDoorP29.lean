import Derived.Test.YtfjdmoppfbddpaaGreatDoorP16
import Derived.Test.YtfjdmoppfbddpaaGreatDoorP04
import Derived.Deep.DeepCutAuto
import Derived.Deep.CutBlock
namespace Go.Proofs.YtfjdmoppfbddpaaGreatDoor
open Go.RowKit Go.Proofs.Tryz
set_option linter.all false
theorem within_any (x lo hi:Int)(w:World):Calls Tryz.prog 89 #[.int .i64 x,.int .i64 lo,.int .i64 hi] w fun e w'=>e=.returned (.bool (btw x lo hi))/\w=w':=by
 by_cases h1:lo<=x
 ·have h2:decide (lo<=x)=true:=by simpa using h1
  go_enter Tryz.func89,Tryz.ntmps89
  go_wp2
  go_ret
  exact⟨ret_bool (by unfold btw;rw[h2,Bool.true_and]),rfl⟩
 ·have h2:decide (lo<=x)=false:=by simpa using h1
  go_enter Tryz.func89,Tryz.ntmps89
  go_wp2
  go_ret
  exact⟨ret_bool (by unfold btw;rw[h2,Bool.false_and]),rfl⟩
theorem wordR_any (x:Int)(w:World):Calls Tryz.prog 92 #[.int .i64 x] w fun e w'=>e=.returned (.bool (isWd x))/\w=w':=by
 go_enter Tryz.func92,Tryz.ntmps92
 go_wp2_with fail
 refine(within_any _ _ _ _).mono ?_
 rintro e w' ⟨rfl,rfl⟩;go_wp2_with fail
 go_ret
 exact⟨rfl,rfl⟩
theorem zeroAffineR_any (b:Int)(A:Option Addr)(l c:Nat)(w:World):Calls Tryz.prog 136 #[.agg #[.int .i64 b,.slice A l c]] w fun e w'=>e=.returned (.bool (decide (b=0)&&decide (l=0)))/\Ext [] w w':=by
 by_cases h:b=0
 ·have h2:(b==0)=true:=by simpa using h
  go_enter Tryz.func136,Tryz.ntmps136
  go_wp2_with fail
  go_ret
  exact⟨ret_bool (by simp[h,nat0]),by first|exact Ext.refl _ _|exact(Ext.refl _ _).alloc _⟩
 ·have h2:(b==0)=false:=by simpa using h
  go_enter Tryz.func136,Tryz.ntmps136
  go_wp2_with fail
  go_ret
  exact⟨ret_bool (by simp[h,nat0]),by first|exact Ext.refl _ _|exact(Ext.refl _ _).alloc _⟩
def nameC (s:ByteArray)(j:Nat):Bool:=match s.data.toList[j]? with|none=>true|some c=>small1 c||(decide (j≠0)&&digit1 c)
theorem nameB_iff (s:ByteArray):nameB s=true ↔ (1<=s.size/\s.size<=8)/\∀j,j<s.size->nameC s j=true:=by
 have hl:s.data.toList.length=s.size:=by simp
 unfold nameB;cases hd:s.data.toList with
 | nil=>rw[hd] at hl;simp at hl;simp;omega
 | cons b r=>
  rw[hd] at hl;simp only[List.length_cons] at hl;simp only[Bool.and_eq_true,decide_eq_true_eq,List.all_eq_true];constructor
  ·rintro⟨⟨h1,h2⟩,h3⟩;refine⟨by omega,fun j hj=>?_⟩
   unfold nameC;rw[hd];cases j with
   | zero=>simp[h2]
   | succ j=>
    have hj2:j<r.length:=by omega
    have:=h3 _ (List.getElem_mem hj2);simp only[List.getElem?_cons_succ,List.getElem?_eq_getElem hj2];simpa using this
  ·rintro⟨h1,h2⟩;refine⟨⟨by omega,?_⟩,fun c hc=>?_⟩
   ·have:=h2 0 (by omega);unfold nameC at this;rw[hd] at this;simpa using this
   ·obtain⟨j,hj,rfl⟩:=List.getElem_of_mem hc;have:=h2 (j+1) (by omega);unfold nameC at this;rw[hd] at this;simp only[List.getElem?_cons_succ,List.getElem?_eq_getElem hj] at this;simpa using this
theorem nameB_not {s:ByteArray}{j:Nat}(hj:j<s.size)(h:nameC s j=false):nameB s=false:=by
 rw[<-Bool.not_eq_true];intro hn;rw[((nameB_iff s).1 hn).2 j hj] at h;cases h
theorem nameC_at {s:ByteArray}{j:Nat}(hj:j<s.size):nameC s j=(small1 (s[j]'hj)||(decide (j≠0)&&digit1 (s[j]'hj))):=by
 unfold nameC
 have:s.data.toList[j]? = some (s[j]'hj):=by
  have h2:s.data.toList[j]? = some (s.data[j]'(by simpa using hj)):=by simp
  rw[h2];rfl
 rw[this]
set_option maxHeartbeats 4000000 in
set_option maxRecDepth 100000 in
theorem named_any (s:ByteArray)(w:World)(hs:s.size<=9223372036854775807):Calls Tryz.prog 86 #[.string s] w fun e w'=>e=.returned (.bool (nameB s))/\Ext [] w w':=by
 go_enter Tryz.func86,Tryz.ntmps86
 go_wp2_with fail
 go_loopw [8] (fun i wr=>∃k:Nat,i=.int .i64 k/\k<=s.size/\Hd (Ext [] w wr)/\Hd (∀j,j<k->nameC s j=true)) (fun i _=>(s.size-intOf i).toNat)
 case atStart=>exact⟨0,rfl,Nat.zero_le _,hd (Ext.refl _ _),hd fun j hj=>absurd hj (by omega)⟩
 case round=>
  obtain⟨k,rfl,hk,HE,HN⟩:=hrel;rename World=>wq
  by_cases hlt:k<s.size
  ·have hkn:(k:Int)<(s.size:Int):=by omega
   have HC:=hd (nameC_at hlt)
   have hix:∀W:World,(Instr.index 9 (.string s) (.int .i64 k)).run Tryz.prog W=.ok (.int .u8 (s[k]'hlt).toNat) W:=fun W=>by
    rw[run_index_string _ _ _ _ _ Tryz.underlying9];simp[hlt]
   generalize hcc:(s[k]'hlt)=c at HC hix;have h97:∃a,decide ((97:Int)<=(c.toNat:Int))=a:=⟨_,rfl⟩;have h122:∃a,decide ((c.toNat:Int)<=122)=a:=⟨_,rfl⟩;have h48:∃a,decide ((48:Int)<=(c.toNat:Int))=a:=⟨_,rfl⟩;have h57:∃a,decide ((c.toNat:Int)<=57)=a:=⟨_,rfl⟩;obtain⟨a97,h97⟩:=h97;obtain⟨a122,h122⟩:=h122;obtain⟨a48,h48⟩:=h48;obtain⟨a57,h57⟩:=h57
   have HV:Hd (nameC s k=((a97&&a122)||(decide (k≠0)&&(a48&&a57)))):=hd (by
    rw[HC.o,<-h97,<-h122,<-h48,<-h57];unfold small1 digit1;have e1:decide ((97:Int)<=(c.toNat:Int))=decide (97<=c.toNat):=by rw[decide_eq_decide];omega
    have e2:decide ((c.toNat:Int)<=122)=decide (c.toNat<=122):=by rw[decide_eq_decide];omega
    have e3:decide ((48:Int)<=(c.toNat:Int))=decide (48<=c.toNat):=by rw[decide_eq_decide];omega
    have e4:decide ((c.toNat:Int)<=57)=decide (c.toNat<=57):=by rw[decide_eq_decide];omega
    rw[e1,e2,e3,e4])
   generalize hci:(c.toNat:Int)=ci at *;clear HC hcc hci;go_upto_region 4 with fail
   have e0:((k:Int)==0)=decide (k=0):=by
    by_cases h:k=0
    ·simp[h]
    ·have:¬(k:Int)=0:=by omega
     simp[h,this]
   have HV2:Hd (nameC s k=((a97&&a122)||(!decide (k=0)&&(a48&&a57)))):=hd (by rw[HV.o];simp);generalize decide (k=0)=bz at e0 HV2;clear HV;cases bz
   all_goals
    cases a97<;>cases a122<;>cases a48<;>cases a57
    all_goals
     go_quiet (fail)
     go_wp2_with fail
     first
      | (
        go_roundw
        case rel=>exact⟨k+1,by go_num,by omega,hd (HE.o.drewN _),hd fun j hj=>by
         rcases Nat.lt_or_ge j k with h1|h1
         ·exact HN.o j h1
         ·have:j=k:=by omega
          rw[this];exact HV2.o⟩
        case measure=>simp[intOf];omega)
      | (
        go_ret
        exact⟨ret_bool (nameB_not hlt HV2.o).symm,HE.o.drewN _⟩)
  ·have hks:k=s.size:=by omega
   have HALL:=hd (fun j (hj:j<s.size)=>HN.o j (by omega));by_cases h1:1<=s.size
   ·have e1:decide ((1:Int)<=(s.size:Int))=true:=by simp;omega
    by_cases h8:s.size<=8
    ·have e8:decide ((s.size:Int)<=8)=true:=by simp;omega
     have HF:=hd ((nameB_iff s).2 ⟨⟨h1,h8⟩,HALL.o⟩);go_wp2_with fail
     go_ret
     exact⟨ret_bool HF.o.symm,HE.o⟩
    ·have e8:decide ((s.size:Int)<=8)=false:=by simp;omega
     have HF:Hd (nameB s=false):=hd (by rw[<-Bool.not_eq_true];intro h;have:=((nameB_iff s).1 h).1;omega);go_wp2_with fail
     go_ret
     exact⟨ret_bool HF.o.symm,HE.o⟩
   ·have e1:decide ((1:Int)<=(s.size:Int))=false:=by simp;omega
    have HF:Hd (nameB s=false):=hd (by rw[<-Bool.not_eq_true];intro h;have:=((nameB_iff s).1 h).1;omega);go_wp2_with fail
    go_ret
    exact⟨ret_bool HF.o.symm,HE.o⟩
theorem enters_affOne:∀args w,(callFunc 196 args).run Tryz.prog w=.ok (.enter 196 args) w:=by
 obtain⟨c,hc⟩:∃c,Tryz.f196.body=some c:=⟨_,rfl⟩;exact fun args w=>enters_of Tryz.func196 (by kernel_rfl) hc args w
theorem affOne_any (t:ByteArray×Int)(b:Nat)(VA:Option Addr)(vn vc:Nat)(vars:List ByteArray)(w:World)(hb:w.cell? ⟨b,0,none⟩=some (.slice VA vn vc))(hv:SeqIn w VA 1 sC vars)(hvn:vars.length=vn) :
  Calls Tryz.prog 196 (#[tmV t] ++ #[.pointer (some ⟨b,0,none⟩)]) w (HasP (strayT vars t) w):=by
 obtain⟨x0,x1⟩:=t;have hbl:=World.block_lt_of_cell? w _ hb;simp only at hbl;have HV:=hd hv;have HVN:=hd hvn;clear hv hvn;unfold tmV;simp only;have HE0:=hd ((Ext.refl [] w).alloc (.cells #[.string x0,.int .i64 x1] 185));go_enter Tryz.func196,Tryz.ntmps196
 go_wp2_with fail
 refine(sHas_any VA vn vc vars x0 _ (HV.o.keep HE0.o) HVN.o).mono ?_
 rintro e w' ⟨rfl,hE⟩;have HE1:=hd (HE0.o.trans hE);clear hE;go_wp2_with fail
 go_ret
 exact⟨ret_bool rfl,HE1.o⟩
set_option maxHeartbeats 4000000 in
set_option maxRecDepth 100000 in
theorem affineR_any (a:Af)(VA:Option Addr)(vn vc:Nat)(vars:List ByteArray)(w:World)(ha:AfIn w a)(hv:SeqIn w VA 1 sC vars)(hvn:vars.length=vn) :
  Calls Tryz.prog 141 #[afV a,.slice VA vn vc] w (ErrP (affE vars a) w):=by
 obtain⟨base,tA,tc,ts⟩:=a;generalize ht:ts.length=n;have hn9:n<=1000000:=by have:=ha.1;simp only at this;omega
 have HA:Hd (SeqIn w tA 2 tmC ts):=hd ha;have HV:=hd hv;have HT:=hd ht;have HVN:=hd hvn;clear ha hv hvn;unfold afV;simp only[ht];clear ht;have HE0:=hd (((Ext.refl [] w).alloc (.cells #[.int .i64 base,.slice tA n tc] 38)).alloc (.cells #[.slice VA vn vc] 138));have HB0:=hd ((Blk.new w 38 #[.int .i64 base,.slice tA n tc]).ext ((Ext.refl [] _).alloc (.cells #[.slice VA vn vc] 138)) (by simp));have HV0:=hd (Blk.new (w.alloc (.cells #[.int .i64 base,.slice tA n tc] 38)) 138 #[.slice VA vn vc]);have alloc_size':∀(w:World) (o:Obj),(w.alloc o).heap.size=w.heap.size+1:=fun w o=>Array.size_push ..
 rw[alloc_size'] at HV0;clear alloc_size';by_cases h0:10<n
 ·have HR:=hd (affE_large (vars:=vars) (a:=⟨base,tA,tc,ts⟩) (by rw[HT.o];exact h0));go_enter Tryz.func141,Tryz.ntmps141
  go_wp2_with fail
  go_ret
  exact⟨ret_int HR.o.symm,HE0.o⟩
 ·have H0:Hd (¬10<(⟨base,tA,tc,ts⟩:Af).ts.length):=hd (by rw[HT.o];exact h0);cases hb:bdd base
  ·have HR:=hd (affE_base (vars:=vars) H0.o hb);have HB:=hd hb;clear hb;go_enter Tryz.func141,Tryz.ntmps141
   go_wp2_with fail
   refine(within_any _ _ _ _).mono ?_
   rintro e w' ⟨rfl,rfl⟩;rw[show btw base (-100000) 100000=false from HB.o];go_wp2_with fail
   go_ret
   exact⟨ret_int HR.o.symm,HE0.o⟩
  ·have HB:=hd hb;clear hb;go_enter Tryz.func141,Tryz.ntmps141
   go_wp2_with fail
   refine(within_any _ _ _ _).mono ?_
   rintro e w' ⟨rfl,rfl⟩;rw[show btw base (-100000) 100000=true from HB.o];go_wp2_with fail
   generalize World.alloc (World.alloc w _) _=w0 at *;generalize w.heap.size=s at *;go_loopw [19] (fun i wr=>∃k:Nat,i=.int .i64 k/\k<=n/\Hd (Ext [] w0 wr)/\Hd (∀(j:Nat) (x:ByteArray×Int),j<k->ts[j]? = some x->badT x=false)) (fun i _=>(n-intOf i).toNat)
   case atStart=>exact⟨0,rfl,Nat.zero_le _,hd (Ext.refl _ _),hd fun j x hj=>absurd hj (by omega)⟩
   case round=>
    obtain⟨k,rfl,hk,HE,HN⟩:=hrel;rename World=>wq
    by_cases hlt:k<n
    ·obtain⟨b,⟨x0,x1⟩,rfl,hx,hc⟩:=((HA.o.keep HE0.o).keep HE.o).at (i:=k) (by have:=HT.o;omega);have g0:=hc 0 _ rfl;have g1:=hc 1 _ rfl;rw[Nat.add_zero] at g0;have HX:=hd hx;clear hx hc;have HEx:=hd (HE.o.alloc (.cells #[.string x0,.int .i64 x1] 185));go_wp2_with fail
     refine(within_any _ _ _ _).mono ?_
     rintro e w' ⟨rfl,rfl⟩;cases hp:badT (x0,x1)
     ·have hb1:bdd x1=true:=by
       simp[badT] at hp;exact hp.1
      have hb2:(x1==0)=false:=by
       simp[badT] at hp;simpa using hp.2
      have HQ:=hd hp;rw[show btw x1 (-100000) 100000=true from hb1];clear hp hb1;go_wp2_with fail
      go_roundw
      case rel=>
       refine⟨k+1,by go_num,by omega,HEx,hd fun j x hj hx=>?_⟩
       rcases Nat.lt_or_ge j k with h1|h1
       ·exact HN.o j x h1 hx
       ·have:j=k:=by omega
        subst this;have:=HX.o.symm.trans hx;cases this
        exact HQ.o
      case measure=>simp[intOf];omega
     ·have HR:Hd (affE vars ⟨base,some ⟨b,0,none⟩,tc,ts⟩=9):=hd (affE_num (vars:=vars) H0.o HB.o (any_at HX.o hp))
      have hq:bdd x1=false\/bdd x1=true/\x1=0:=by
       cases hb:bdd x1
       ·exact .inl rfl
       ·simp[badT,hb] at hp;exact .inr ⟨rfl,hp⟩
      clear hp;rcases hq with hq|⟨hq,rfl⟩
      all_goals
       unfold bdd at hq;rw[hq];clear hq;go_wp2_with fail
       go_ret
       exact⟨ret_int HR.o.symm,HE0.o.trans HEx.o⟩
    ·have H2:=hd (any_upto HT.o (fun j x hj hx=>HN.o j x (by omega) hx));have HE1:=HE;have qb:=(HB0.o.ext HE.o (by simp)).cell;have ql:=(HB0.o.ext HE.o (by simp)).lt;clear HN;go_wp2_with fail
     clear qb ql;go_loopw [7] (fun i wr=>∃k:Nat,i=.int .i64 k/\1<=k/\(k<=n\/k=1)/\Hd (Ext [] w0 wr)/\Hd (∀(j:Nat) (x y:ByteArray×Int),j+1<k->ts[j]? = some x->ts[j+1]? = some y->ltS x.1 y.1=true)) (fun i _=>(n-intOf i).toNat)
     case atStart=>exact⟨1,rfl,Nat.le_refl _,.inr rfl,HE1,hd fun j x y hj=>absurd hj (by omega)⟩
     case round=>
      obtain⟨k,rfl,hk1,hk,HE,HN⟩:=hrel;clear HE1;rename World=>wz
      have qb:=(HB0.o.ext HE.o (by simp)).cell;have ql:=(HB0.o.ext HE.o (by simp)).lt;by_cases hlt:k<n
      ·obtain⟨q,rfl⟩:∃q,k=q+1:=⟨k-1,by omega⟩;obtain⟨b,⟨x0,x1⟩,rfl,hx,hc⟩:=((HA.o.keep HE0.o).keep HE.o).at (i:=q+1) (by have:=HT.o;omega);obtain⟨b',⟨y0,y1⟩,hb',hy,hc'⟩:=((HA.o.keep HE0.o).keep HE.o).at (i:=q) (by have:=HT.o;omega);cases hb'
       have g0:=hc 0 _ rfl;have e0:=hc' 0 _ rfl;rw[Nat.add_zero] at g0 e0;have HX:=hd hx;have HY:=hd hy;have hbl:=World.block_lt_of_cell? wz _ g0;simp only at hbl;have hq0:(q:Int)+1<(n:Int):=by omega
       have hq1:(q:Int)<(n:Int):=by omega
       have hwq:IntKind.i64.wrap (q:Int)=q:=by rw[IntKind.wrap_i64];omega
       clear hx hc hy hc';go_wp2_with fail
       cases hp:ltS y0 x0
       ·have HR:Hd (affE vars ⟨base,some ⟨b,0,none⟩,tc,ts⟩=7):=hd (affE_order H0.o HB.o H2.o (unord_at HY.o HX.o hp));have hle:=ltS_le x0 y0;rw[hp] at hle;cases h1:ltS x0 y0
        ·rw[h1] at hle;have h1':Op.bytesLess x0.toList y0.toList=false:=h1;have h2':(x0.toList==y0.toList)=true:=by simpa[eqS] using hle
         clear hp h1 hle;go_quiet (fail)
         go_wp2_with fail
         go_ret
         exact⟨ret_int HR.o.symm,HE0.o.trans (HE.o.drewN _)⟩
        ·have h1':Op.bytesLess x0.toList y0.toList=true:=h1;clear hp h1 hle;go_quiet (fail)
         go_wp2_with fail
         go_ret
         exact⟨ret_int HR.o.symm,HE0.o.trans (HE.o.drewN _)⟩
       ·have HQ:=hd hp;have hle:=ltS_le x0 y0;rw[hp] at hle;simp only[Bool.not_true,Bool.or_eq_false_iff] at hle;have h1':Op.bytesLess x0.toList y0.toList=false:=hle.1;have h2':(x0.toList==y0.toList)=false:=hle.2;clear hp hle;go_quiet (fail)
        go_wp2_with fail
        go_roundw
        case rel=>
         refine⟨q+1+1,by go_num,by omega,by omega,hd (HE.o.drewN _),hd fun j x y hj hx hy=>?_⟩
         rcases Nat.lt_or_ge j q with h1|h1
         ·exact HN.o j x y (by omega) hx hy
         ·have:j=q:=by omega
          subst this;have h3:=HY.o.symm.trans hx;have h4:=HX.o.symm.trans hy;cases h3;cases h4
          exact HQ.o
        case measure=>simp[intOf];omega
      ·have H3:Hd (unord ts=false):=hd (unord_upto fun j x y hx hy=>HN.o j x y (by have:=(List.getElem?_eq_some_iff.1 hy).1;have:=HT.o;omega) hx hy);clear HN;have hE2:=HE0.o.trans HE.o;have HCF:=hd (tm_has tA n tc ts 196 #[.pointer (some ⟨s+1,0,none⟩)] (strayT vars) wz (HA.o.keep hE2) HT.o ⟨enters_affOne,fun i x hx w' hE=>affOne_any x (s+1) VA vn vc vars w' ((HV0.o.ext (HE.o.trans hE) (by simp)).cell 0) ((HV.o.keep hE2).keep hE) HVN.o⟩);have HE2:=hd hE2;clear hE2;go_wp2_with fail
       refine HCF.o.mono ?_
       rintro e w' ⟨rfl,hE⟩;have HE3:=hd (HE2.o.trans hE);clear hE;cases hst:ts.any (strayT vars)
       ·have HR:Hd (affE vars ⟨base,tA,tc,ts⟩=0):=hd (affE_ok H0.o HB.o H2.o H3.o hst);clear hst;go_wp2_with fail
        go_ret
        exact⟨ret_int HR.o.symm,HE3.o⟩
       ·have HR:Hd (affE vars ⟨base,tA,tc,ts⟩=5):=hd (affE_name H0.o HB.o H2.o H3.o hst);clear hst;go_wp2_with fail
        go_ret
        exact⟨ret_int HR.o.symm,HE3.o⟩
end Go.Proofs.YtfjdmoppfbddpaaGreatDoor
