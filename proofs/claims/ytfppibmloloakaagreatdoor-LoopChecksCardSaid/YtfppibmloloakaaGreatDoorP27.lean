import Derived.Test.YtfppibmloloakaaGreatDoorP14
import Derived.Deep.DeepCutAuto
import Derived.Deep.CutBlock
namespace Go.Proofs.YtfppibmloloakaaGreatDoor
open Go.RowKit Go.Proofs.Tryz
set_option linter.all false
theorem within_any (x lo hi:Int)(w:World):Calls Tryz.prog 77 #[.int .i64 x,.int .i64 lo,.int .i64 hi] w fun e w'=>e=.returned (.bool (btw x lo hi))/\w=w':=by
 by_cases h1:lo<=x
 ·have h2:decide (lo<=x)=true:=by simpa using h1
  go_enter Tryz.func77,Tryz.ntmps77
  go_wp2
  go_ret
  exact⟨ret_bool (by unfold btw;rw[h2,Bool.true_and]),rfl⟩
 ·have h2:decide (lo<=x)=false:=by simpa using h1
  go_enter Tryz.func77,Tryz.ntmps77
  go_wp2
  go_ret
  exact⟨ret_bool (by unfold btw;rw[h2,Bool.false_and]),rfl⟩
theorem wordR_any (x:Int)(w:World):Calls Tryz.prog 80 #[.int .i64 x] w fun e w'=>e=.returned (.bool (isWd x))/\w=w':=by
 go_enter Tryz.func80,Tryz.ntmps80
 go_wp2_with fail
 refine(within_any _ _ _ _).mono ?_
 rintro e w' ⟨rfl,rfl⟩;go_wp2_with fail
 go_ret
 exact⟨rfl,rfl⟩
theorem zeroAffineR_any (b:Int)(A:Option Addr)(l c:Nat)(w:World):Calls Tryz.prog 122 #[.agg #[.int .i64 b,.slice A l c]] w fun e w'=>e=.returned (.bool (decide (b=0)&&decide (l=0)))/\Ext [] w w':=by
 by_cases h:b=0
 ·have h2:(b==0)=true:=by simpa using h
  go_enter Tryz.func122,Tryz.ntmps122
  go_wp2_with fail
  go_ret
  exact⟨ret_bool (by simp[h,nat0]),by first|exact Ext.refl _ _|exact(Ext.refl _ _).alloc _⟩
 ·have h2:(b==0)=false:=by simpa using h
  go_enter Tryz.func122,Tryz.ntmps122
  go_wp2_with fail
  go_ret
  exact⟨ret_bool (by simp[h,nat0]),by first|exact Ext.refl _ _|exact(Ext.refl _ _).alloc _⟩
def nameC (s:ByteArray)(j:Nat):Bool:=match s.data.toList[j]? with|none=>true|some c=>small1 c||(decide (j≠0)&&digit1 c)
theorem nameB_iff (s:ByteArray):nameB s=true ↔ (1<=s.size/\s.size<=8)/\∀j,j<s.size->nameC s j=true:=by
 have hl:s.data.toList.length=s.size:=by simp
 unfold nameB;cases hd:s.data.toList with
 | nil=>rw[hd] at hl;simp at hl;simp;omega
 | cons b r=>
  rw[hd] at hl;simp only[List.length_cons] at hl;simp only[Bool.and_eq_true,decide_eq_true_eq,List.all_eq_true];constructor
  ·rintro⟨⟨h1,h2⟩,h3⟩;refine⟨by omega,fun j hj=>?_⟩
   unfold nameC;rw[hd];cases j with
   | zero=>simp[h2]
   | succ j=>
    have hj2:j<r.length:=by omega
    have:=h3 _ (List.getElem_mem hj2);simp only[List.getElem?_cons_succ,List.getElem?_eq_getElem hj2];simpa using this
  ·rintro⟨h1,h2⟩;refine⟨⟨by omega,?_⟩,fun c hc=>?_⟩
   ·have:=h2 0 (by omega);unfold nameC at this;rw[hd] at this;simpa using this
   ·obtain⟨j,hj,rfl⟩:=List.getElem_of_mem hc;have:=h2 (j+1) (by omega);unfold nameC at this;rw[hd] at this;simp only[List.getElem?_cons_succ,List.getElem?_eq_getElem hj] at this;simpa using this
theorem nameB_not {s:ByteArray}{j:Nat}(hj:j<s.size)(h:nameC s j=false):nameB s=false:=by
 rw[<-Bool.not_eq_true];intro hn;rw[((nameB_iff s).1 hn).2 j hj] at h;cases h
theorem nameC_at {s:ByteArray}{j:Nat}(hj:j<s.size):nameC s j=(small1 (s[j]'hj)||(decide (j≠0)&&digit1 (s[j]'hj))):=by
 unfold nameC
 have:s.data.toList[j]? = some (s[j]'hj):=by
  have h2:s.data.toList[j]? = some (s.data[j]'(by simpa using hj)):=by simp
  rw[h2];rfl
 rw[this]
set_option maxHeartbeats 4000000 in
set_option maxRecDepth 100000 in
theorem named_any (s:ByteArray)(w:World)(hs:s.size<=9223372036854775807):Calls Tryz.prog 74 #[.string s] w fun e w'=>e=.returned (.bool (nameB s))/\Ext [] w w':=by
 go_enter Tryz.func74,Tryz.ntmps74
 go_wp2_with fail
 go_loopw [8] (fun i wr=>∃k:Nat,i=.int .i64 k/\k<=s.size/\Hd (Ext [] w wr)/\Hd (∀j,j<k->nameC s j=true)) (fun i _=>(s.size-intOf i).toNat)
 case atStart=>exact⟨0,rfl,Nat.zero_le _,hd (Ext.refl _ _),hd fun j hj=>absurd hj (by omega)⟩
 case round=>
  obtain⟨k,rfl,hk,HE,HN⟩:=hrel;rename World=>wq
  by_cases hlt:k<s.size
  ·have hkn:(k:Int)<(s.size:Int):=by omega
   have HC:=hd (nameC_at hlt)
   have hix:∀W:World,(Instr.index 9 (.string s) (.int .i64 k)).run Tryz.prog W=.ok (.int .u8 (s[k]'hlt).toNat) W:=fun W=>by
    rw[run_index_string _ _ _ _ _ Tryz.underlying9];simp[hlt]
   generalize hcc:(s[k]'hlt)=c at HC hix;have h97:∃a,decide ((97:Int)<=(c.toNat:Int))=a:=⟨_,rfl⟩;have h122:∃a,decide ((c.toNat:Int)<=122)=a:=⟨_,rfl⟩;have h48:∃a,decide ((48:Int)<=(c.toNat:Int))=a:=⟨_,rfl⟩;have h57:∃a,decide ((c.toNat:Int)<=57)=a:=⟨_,rfl⟩;obtain⟨a97,h97⟩:=h97;obtain⟨a122,h122⟩:=h122;obtain⟨a48,h48⟩:=h48;obtain⟨a57,h57⟩:=h57
   have HV:Hd (nameC s k=((a97&&a122)||(decide (k≠0)&&(a48&&a57)))):=hd (by
    rw[HC.o,<-h97,<-h122,<-h48,<-h57];unfold small1 digit1;have e1:decide ((97:Int)<=(c.toNat:Int))=decide (97<=c.toNat):=by rw[decide_eq_decide];omega
    have e2:decide ((c.toNat:Int)<=122)=decide (c.toNat<=122):=by rw[decide_eq_decide];omega
    have e3:decide ((48:Int)<=(c.toNat:Int))=decide (48<=c.toNat):=by rw[decide_eq_decide];omega
    have e4:decide ((c.toNat:Int)<=57)=decide (c.toNat<=57):=by rw[decide_eq_decide];omega
    rw[e1,e2,e3,e4])
   generalize hci:(c.toNat:Int)=ci at *;clear HC hcc hci;go_upto_region 4 with fail
   have e0:((k:Int)==0)=decide (k=0):=by
    by_cases h:k=0
    ·simp[h]
    ·have:¬(k:Int)=0:=by omega
     simp[h,this]
   have HV2:Hd (nameC s k=((a97&&a122)||(!decide (k=0)&&(a48&&a57)))):=hd (by rw[HV.o];simp);generalize decide (k=0)=bz at e0 HV2;clear HV;cases bz
   all_goals
    cases a97<;>cases a122<;>cases a48<;>cases a57
    all_goals
     go_quiet (fail)
     go_wp2_with fail
     first
      | (
        go_roundw
        case rel=>exact⟨k+1,by go_num,by omega,hd (HE.o.drewN _),hd fun j hj=>by
         rcases Nat.lt_or_ge j k with h1|h1
         ·exact HN.o j h1
         ·have:j=k:=by omega
          rw[this];exact HV2.o⟩
        case measure=>simp[intOf];omega)
      | (
        go_ret
        exact⟨ret_bool (nameB_not hlt HV2.o).symm,HE.o.drewN _⟩)
  ·have hks:k=s.size:=by omega
   have HALL:=hd (fun j (hj:j<s.size)=>HN.o j (by omega));by_cases h1:1<=s.size
   ·have e1:decide ((1:Int)<=(s.size:Int))=true:=by simp;omega
    by_cases h8:s.size<=8
    ·have e8:decide ((s.size:Int)<=8)=true:=by simp;omega
     have HF:=hd ((nameB_iff s).2 ⟨⟨h1,h8⟩,HALL.o⟩);go_wp2_with fail
     go_ret
     exact⟨ret_bool HF.o.symm,HE.o⟩
    ·have e8:decide ((s.size:Int)<=8)=false:=by simp;omega
     have HF:Hd (nameB s=false):=hd (by rw[<-Bool.not_eq_true];intro h;have:=((nameB_iff s).1 h).1;omega);go_wp2_with fail
     go_ret
     exact⟨ret_bool HF.o.symm,HE.o⟩
   ·have e1:decide ((1:Int)<=(s.size:Int))=false:=by simp;omega
    have HF:Hd (nameB s=false):=hd (by rw[<-Bool.not_eq_true];intro h;have:=((nameB_iff s).1 h).1;omega);go_wp2_with fail
    go_ret
    exact⟨ret_bool HF.o.symm,HE.o⟩
theorem enters_affOne:∀args w,(callFunc 174 args).run Tryz.prog w=.ok (.enter 174 args) w:=by
 obtain⟨c,hc⟩:∃c,Tryz.f174.body=some c:=⟨_,rfl⟩;exact fun args w=>enters_of Tryz.func174 (by kernel_rfl) hc args w
theorem affOne_any (t:ByteArray×Int)(b:Nat)(VA:Option Addr)(vn vc:Nat)(vars:List ByteArray)(w:World)(hb:w.cell? ⟨b,0,none⟩=some (.slice VA vn vc))(hv:SeqIn w VA 1 sC vars)(hvn:vars.length=vn) :
  Calls Tryz.prog 174 (#[tmV t] ++ #[.pointer (some ⟨b,0,none⟩)]) w (HasP (strayT vars t) w):=by
 obtain⟨x0,x1⟩:=t;have hbl:=World.block_lt_of_cell? w _ hb;simp only at hbl;have HV:=hd hv;have HVN:=hd hvn;clear hv hvn;unfold tmV;simp only;have HE0:=hd ((Ext.refl [] w).alloc (.cells #[.string x0,.int .i64 x1] 178));go_enter Tryz.func174,Tryz.ntmps174
 go_wp2_with fail
 refine(sHas_any VA vn vc vars x0 _ (HV.o.keep HE0.o) HVN.o).mono ?_
 rintro e w' ⟨rfl,hE⟩;have HE1:=hd (HE0.o.trans hE);clear hE;go_wp2_with fail
 go_ret
 exact⟨ret_bool rfl,HE1.o⟩
set_option maxHeartbeats 4000000 in
set_option maxRecDepth 100000 in
theorem affineR_any (a:Af)(VA:Option Addr)(vn vc:Nat)(vars:List ByteArray)(w:World)(ha:AfIn w a)(hv:SeqIn w VA 1 sC vars)(hvn:vars.length=vn) :
  Calls Tryz.prog 127 #[afV a,.slice VA vn vc] w (ErrP (affE vars a) w):=by
 obtain⟨base,tA,tc,ts⟩:=a;generalize ht:ts.length=n;have hn9:n<=1000000:=by have:=ha.1;simp only at this;omega
 have HA:Hd (SeqIn w tA 2 tmC ts):=hd ha;have HV:=hd hv;have HT:=hd ht;have HVN:=hd hvn;clear ha hv hvn;unfold afV;simp only[ht];clear ht;have HE0:=hd (((Ext.refl [] w).alloc (.cells #[.int .i64 base,.slice tA n tc] 38)).alloc (.cells #[.slice VA vn vc] 133));have HB0:=hd ((Blk.new w 38 #[.int .i64 base,.slice tA n tc]).ext ((Ext.refl [] _).alloc (.cells #[.slice VA vn vc] 133)) (by simp));have HV0:=hd (Blk.new (w.alloc (.cells #[.int .i64 base,.slice tA n tc] 38)) 133 #[.slice VA vn vc]);have alloc_size':∀(w:World) (o:Obj),(w.alloc o).heap.size=w.heap.size+1:=fun w o=>Array.size_push ..
 rw[alloc_size'] at HV0;clear alloc_size';by_cases h0:10<n
 ·have HR:=hd (affE_large (vars:=vars) (a:=⟨base,tA,tc,ts⟩) (by rw[HT.o];exact h0));go_enter Tryz.func127,Tryz.ntmps127
  go_wp2_with fail
  go_ret
  exact⟨ret_int HR.o.symm,HE0.o⟩
 ·have H0:Hd (¬10<(⟨base,tA,tc,ts⟩:Af).ts.length):=hd (by rw[HT.o];exact h0);cases hb:bdd base
  ·have HR:=hd (affE_base (vars:=vars) H0.o hb);have HB:=hd hb;clear hb;go_enter Tryz.func127,Tryz.ntmps127
   go_wp2_with fail
   refine(within_any _ _ _ _).mono ?_
   rintro e w' ⟨rfl,rfl⟩;rw[show btw base (-100000) 100000=false from HB.o];go_wp2_with fail
   go_ret
   exact⟨ret_int HR.o.symm,HE0.o⟩
  ·have HB:=hd hb;clear hb;go_enter Tryz.func127,Tryz.ntmps127
   go_wp2_with fail
   refine(within_any _ _ _ _).mono ?_
   rintro e w' ⟨rfl,rfl⟩;rw[show btw base (-100000) 100000=true from HB.o];go_wp2_with fail
   generalize World.alloc (World.alloc w _) _=w0 at *;generalize w.heap.size=s at *;go_loopw [19] (fun i wr=>∃k:Nat,i=.int .i64 k/\k<=n/\Hd (Ext [] w0 wr)/\Hd (∀(j:Nat) (x:ByteArray×Int),j<k->ts[j]? = some x->badT x=false)) (fun i _=>(n-intOf i).toNat)
   case atStart=>exact⟨0,rfl,Nat.zero_le _,hd (Ext.refl _ _),hd fun j x hj=>absurd hj (by omega)⟩
   case round=>
    obtain⟨k,rfl,hk,HE,HN⟩:=hrel;rename World=>wq
    by_cases hlt:k<n
    ·obtain⟨b,⟨x0,x1⟩,rfl,hx,hc⟩:=((HA.o.keep HE0.o).keep HE.o).at (i:=k) (by have:=HT.o;omega);have g0:=hc 0 _ rfl;have g1:=hc 1 _ rfl;rw[Nat.add_zero] at g0;have HX:=hd hx;clear hx hc;have HEx:=hd (HE.o.alloc (.cells #[.string x0,.int .i64 x1] 178));go_wp2_with fail
     refine(within_any _ _ _ _).mono ?_
     rintro e w' ⟨rfl,rfl⟩;cases hp:badT (x0,x1)
     ·have hb1:bdd x1=true:=by
       simp[badT] at hp;exact hp.1
      have hb2:(x1==0)=false:=by
       simp[badT] at hp;simpa using hp.2
      have HQ:=hd hp;rw[show btw x1 (-100000) 100000=true from hb1];clear hp hb1;go_wp2_with fail
      go_roundw
      case rel=>
       refine⟨k+1,by go_num,by omega,HEx,hd fun j x hj hx=>?_⟩
       rcases Nat.lt_or_ge j k with h1|h1
       ·exact HN.o j x h1 hx
       ·have:j=k:=by omega
        subst this;have:=HX.o.symm.trans hx;cases this
        exact HQ.o
      case measure=>simp[intOf];omega
     ·have HR:Hd (affE vars ⟨base,some ⟨b,0,none⟩,tc,ts⟩=9):=hd (affE_num (vars:=vars) H0.o HB.o (any_at HX.o hp))
      have hq:bdd x1=false\/bdd x1=true/\x1=0:=by
       cases hb:bdd x1
       ·exact .inl rfl
       ·simp[badT,hb] at hp;exact .inr ⟨rfl,hp⟩
      clear hp;rcases hq with hq|⟨hq,rfl⟩
      all_goals
       unfold bdd at hq;rw[hq];clear hq;go_wp2_with fail
       go_ret
       exact⟨ret_int HR.o.symm,HE0.o.trans HEx.o⟩
    ·have H2:=hd (any_upto HT.o (fun j x hj hx=>HN.o j x (by omega) hx));have HE1:=HE;have qb:=(HB0.o.ext HE.o (by simp)).cell;have ql:=(HB0.o.ext HE.o (by simp)).lt;clear HN;go_wp2_with fail
     clear qb ql;go_loopw [7] (fun i wr=>∃k:Nat,i=.int .i64 k/\1<=k/\(k<=n\/k=1)/\Hd (Ext [] w0 wr)/\Hd (∀(j:Nat) (x y:ByteArray×Int),j+1<k->ts[j]? = some x->ts[j+1]? = some y->ltS x.1 y.1=true)) (fun i _=>(n-intOf i).toNat)
     case atStart=>exact⟨1,rfl,Nat.le_refl _,.inr rfl,HE1,hd fun j x y hj=>absurd hj (by omega)⟩
     case round=>
      obtain⟨k,rfl,hk1,hk,HE,HN⟩:=hrel;clear HE1;rename World=>wz
      have qb:=(HB0.o.ext HE.o (by simp)).cell;have ql:=(HB0.o.ext HE.o (by simp)).lt;by_cases hlt:k<n
      ·obtain⟨q,rfl⟩:∃q,k=q+1:=⟨k-1,by omega⟩;obtain⟨b,⟨x0,x1⟩,rfl,hx,hc⟩:=((HA.o.keep HE0.o).keep HE.o).at (i:=q+1) (by have:=HT.o;omega);obtain⟨b',⟨y0,y1⟩,hb',hy,hc'⟩:=((HA.o.keep HE0.o).keep HE.o).at (i:=q) (by have:=HT.o;omega);cases hb'
       have g0:=hc 0 _ rfl;have e0:=hc' 0 _ rfl;rw[Nat.add_zero] at g0 e0;have HX:=hd hx;have HY:=hd hy;have hbl:=World.block_lt_of_cell? wz _ g0;simp only at hbl;have hq0:(q:Int)+1<(n:Int):=by omega
       have hq1:(q:Int)<(n:Int):=by omega
       have hwq:IntKind.i64.wrap (q:Int)=q:=by rw[IntKind.wrap_i64];omega
       clear hx hc hy hc';go_wp2_with fail
       cases hp:ltS y0 x0
       ·have HR:Hd (affE vars ⟨base,some ⟨b,0,none⟩,tc,ts⟩=7):=hd (affE_order H0.o HB.o H2.o (unord_at HY.o HX.o hp));have hle:=ltS_le x0 y0;rw[hp] at hle;cases h1:ltS x0 y0
        ·rw[h1] at hle;have h1':Op.bytesLess x0.toList y0.toList=false:=h1;have h2':(x0.toList==y0.toList)=true:=by simpa[eqS] using hle
         clear hp h1 hle;go_quiet (fail)
         go_wp2_with fail
         go_ret
         exact⟨ret_int HR.o.symm,HE0.o.trans (HE.o.drewN _)⟩
        ·have h1':Op.bytesLess x0.toList y0.toList=true:=h1;clear hp h1 hle;go_quiet (fail)
         go_wp2_with fail
         go_ret
         exact⟨ret_int HR.o.symm,HE0.o.trans (HE.o.drewN _)⟩
       ·have HQ:=hd hp;have hle:=ltS_le x0 y0;rw[hp] at hle;simp only[Bool.not_true,Bool.or_eq_false_iff] at hle;have h1':Op.bytesLess x0.toList y0.toList=false:=hle.1;have h2':(x0.toList==y0.toList)=false:=hle.2;clear hp hle;go_quiet (fail)
        go_wp2_with fail
        go_roundw
        case rel=>
         refine⟨q+1+1,by go_num,by omega,by omega,hd (HE.o.drewN _),hd fun j x y hj hx hy=>?_⟩
         rcases Nat.lt_or_ge j q with h1|h1
         ·exact HN.o j x y (by omega) hx hy
         ·have:j=q:=by omega
          subst this;have h3:=HY.o.symm.trans hx;have h4:=HX.o.symm.trans hy;cases h3;cases h4
          exact HQ.o
        case measure=>simp[intOf];omega
      ·have H3:Hd (unord ts=false):=hd (unord_upto fun j x y hx hy=>HN.o j x y (by have:=(List.getElem?_eq_some_iff.1 hy).1;have:=HT.o;omega) hx hy);clear HN;have hE2:=HE0.o.trans HE.o;have HCF:=hd (tm_has tA n tc ts 174 #[.pointer (some ⟨s+1,0,none⟩)] (strayT vars) wz (HA.o.keep hE2) HT.o ⟨enters_affOne,fun i x hx w' hE=>affOne_any x (s+1) VA vn vc vars w' ((HV0.o.ext (HE.o.trans hE) (by simp)).cell 0) ((HV.o.keep hE2).keep hE) HVN.o⟩);have HE2:=hd hE2;clear hE2;go_wp2_with fail
       refine HCF.o.mono ?_
       rintro e w' ⟨rfl,hE⟩;have HE3:=hd (HE2.o.trans hE);clear hE;cases hst:ts.any (strayT vars)
       ·have HR:Hd (affE vars ⟨base,tA,tc,ts⟩=0):=hd (affE_ok H0.o HB.o H2.o H3.o hst);clear hst;go_wp2_with fail
        go_ret
        exact⟨ret_int HR.o.symm,HE3.o⟩
       ·have HR:Hd (affE vars ⟨base,tA,tc,ts⟩=5):=hd (affE_name H0.o HB.o H2.o H3.o hst);clear hst;go_wp2_with fail
        go_ret
        exact⟨ret_int HR.o.symm,HE3.o⟩
def operN (op:Int):Int:=if op=15 then 3 else if 11<=op then 1 else 2
theorem operands_any (op:Int)(w:World):Calls Tryz.prog 208 #[.int .i64 op] w fun e w'=>e=.returned (.int .i64 (operN op))/\w=w':=by
 by_cases h1:op=15
 ·subst h1;go_enter Tryz.func208,Tryz.ntmps208
  go_wp2_with fail
  go_ret
  exact⟨rfl,rfl⟩
 ·have e1:(op==15)=false:=by simpa using h1
  have H1:=hd h1;clear h1;by_cases h2:11<=op
  ·have e2:decide (11<=op)=true:=by simpa using h2
   have H2:=hd h2;clear h2;go_enter Tryz.func208,Tryz.ntmps208
   go_wp2_with fail
   go_ret
   exact⟨ret_int (by unfold operN;rw[if_neg H1.o,if_pos H2.o]),rfl⟩
  ·have e2:decide (11<=op)=false:=by simpa using h2
   have H2:=hd h2;clear h2;go_enter Tryz.func208,Tryz.ntmps208
   go_wp2_with fail
   go_ret
   exact⟨ret_int (by unfold operN;rw[if_neg H1.o,if_neg (by have:=H2.o;omega)]),rfl⟩
theorem reads_any (k:Int)(w:World):Calls Tryz.prog 176 #[.int .i64 k] w fun e w'=>e=.returned (.bool (decide (k=3)||decide (k=4)))/\w=w':=by
 by_cases h1:k=3
 ·subst h1;go_enter Tryz.func176,Tryz.ntmps176
  go_wp2_with fail
  go_ret
  exact⟨rfl,rfl⟩
 ·have e1:(k==3)=false:=by simpa using h1
  go_enter Tryz.func176,Tryz.ntmps176
  go_wp2_with fail
  go_ret
  exact⟨ret_bool (by by_cases h2:k=4<;>simp[h1,h2]),rfl⟩
theorem alloc_sizeR (w:World)(o:Obj):(w.alloc o).heap.size=w.heap.size+1:=Array.size_push ..
set_option maxHeartbeats 8000000 in
set_option maxRecDepth 100000 in
theorem exprForm_1 (x1 x2 x3 x4 x5 x6 y0:Int)(y1:Option Addr)(l y2:Nat)(x8:Option Addr)(n x9:Nat)(w:World) :
  Calls Tryz.prog 170 #[.agg #[.int .i64 1,.int .i64 x1,.int .i64 x2,.int .i64 x3,.int .i64 x4,.int .i64 x5,.int .i64 x6,.int .i64 y0,.slice y1 l y2,.slice x8 n x9]] w fun e w'=>
   e=.returned (.bool (decide (x1=0)&&decide (x2=0)&&decide (x3=0)&&decide (x5=0)&&decide (x6=0)&&(decide (y0=0)&&decide (l=0))&&decide ((n:Int)=0)))/\Ext [] w w':=by
 have HE2:=hd (((Ext.refl [] w).alloc (.cells #[.int .i64 1,.int .i64 x1,.int .i64 x2,.int .i64 x3,.int .i64 x4,.int .i64 x5,.int .i64 x6,.int .i64 y0,.slice y1 l y2,.slice x8 n x9] 41)).alloc (.cells #[.int .i64 1,.int .i64 x1,.int .i64 x2,.int .i64 x3,.int .i64 x4,.int .i64 x5,.int .i64 x6,.int .i64 y0,.slice y1 l y2,.slice x8 n x9] 41));have HB1:=hd ((Blk.new w 41 #[.int .i64 1,.int .i64 x1,.int .i64 x2,.int .i64 x3,.int .i64 x4,.int .i64 x5,.int .i64 x6,.int .i64 y0,.slice y1 l y2,.slice x8 n x9]).ext ((Ext.refl [] _).alloc (.cells #[.int .i64 1,.int .i64 x1,.int .i64 x2,.int .i64 x3,.int .i64 x4,.int .i64 x5,.int .i64 x6,.int .i64 y0,.slice y1 l y2,.slice x8 n x9] 41)) (by simp));have HB3:=hd (Blk.new (w.alloc (.cells #[.int .i64 1,.int .i64 x1,.int .i64 x2,.int .i64 x3,.int .i64 x4,.int .i64 x5,.int .i64 x6,.int .i64 y0,.slice y1 l y2,.slice x8 n x9] 41)) 41 #[.int .i64 1,.int .i64 x1,.int .i64 x2,.int .i64 x3,.int .i64 x4,.int .i64 x5,.int .i64 x6,.int .i64 y0,.slice y1 l y2,.slice x8 n x9]);rw[alloc_sizeR] at HB3;go_enter Tryz.func170,Tryz.ntmps170
 go_upto_region 2 with fail
 generalize World.alloc (World.alloc w _) _=w2 at *;generalize hs:w.heap.size=s at *;have q1:=HB1.o.cell;have q1l:=HB1.o.lt;have q3:=HB3.o.cell;have q3f:=HB3.o.frozen;have q3l:=HB3.o.lt;go_upto_region 21 with fail
 have HB4:=hd (HB3.o.set_' 4 (.int .i64 0) #[.int .i64 1,.int .i64 x1,.int .i64 x2,.int .i64 x3,.int .i64 0,.int .i64 x5,.int .i64 x6,.int .i64 y0,.slice y1 l y2,.slice x8 n x9] rfl);have HE4:=hd (Ext.setAt (b:=s+1) (i:=4) (u:=.int .i64 0) (.inl (by simp)) (Ext.refl [s+1] w2));have HEW:=hd (HE2.o.nil.step HE4.o fun x hx=>.inr (by rw[List.mem_singleton.1 hx];omega):Ext [] w _);have HB5:=hd (HB1.o.ext HE4.o (fun hm=>by rw[List.mem_singleton] at hm;omega));generalize (w2.setCell ⟨s+1,4,none⟩ (.int .i64 0))=w4 at *;clear q1 q1l q3 q3f q3l HB1 HB3 HE2 HE4;have q3:=HB4.o.cell;have q3l:=HB4.o.lt;have q1:=HB5.o.cell;have q1l:=HB5.o.lt;by_cases h_x1:x1=0
 case neg=>
  have e_x1:(x1==0)=false:=by simpa using h_x1
  have H_x1:=hd h_x1;clear h_x1;go_wp2_with fail
  go_ret
  exact⟨ret_bool (by have:=H_x1.o;simp[this]),HEW.o⟩
 have e_x1:(x1==0)=true:=by simpa using h_x1
 have H_x1:=hd h_x1;clear h_x1;by_cases h_x2:x2=0
 case neg=>
  have e_x2:(x2==0)=false:=by simpa using h_x2
  have H_x2:=hd h_x2;clear h_x2;go_wp2_with fail
  go_ret
  exact⟨ret_bool (by have:=H_x2.o;simp[this]),HEW.o⟩
 have e_x2:(x2==0)=true:=by simpa using h_x2
 have H_x2:=hd h_x2;clear h_x2;by_cases h_x3:x3=0
 case neg=>
  have e_x3:(x3==0)=false:=by simpa using h_x3
  have H_x3:=hd h_x3;clear h_x3;go_wp2_with fail
  go_ret
  exact⟨ret_bool (by have:=H_x3.o;simp[this]),HEW.o⟩
 have e_x3:(x3==0)=true:=by simpa using h_x3
 have H_x3:=hd h_x3;clear h_x3;by_cases h_x5:x5=0
 case neg=>
  have e_x5:(x5==0)=false:=by simpa using h_x5
  have H_x5:=hd h_x5;clear h_x5;go_wp2_with fail
  go_ret
  exact⟨ret_bool (by have:=H_x5.o;simp[this]),HEW.o⟩
 have e_x5:(x5==0)=true:=by simpa using h_x5
 have H_x5:=hd h_x5;clear h_x5;by_cases h_x6:x6=0
 case neg=>
  have e_x6:(x6==0)=false:=by simpa using h_x6
  have H_x6:=hd h_x6;clear h_x6;go_wp2_with fail
  go_ret
  exact⟨ret_bool (by have:=H_x6.o;simp[this]),HEW.o⟩
 have e_x6:(x6==0)=true:=by simpa using h_x6
 have H_x6:=hd h_x6;clear h_x6;go_wp2_with fail
 refine(zeroAffineR_any _ _ _ _ _).mono ?_
 rintro e w5 ⟨rfl,hE⟩;have HE5:=hd (HEW.o.trans hE);have q5:=(HB5.o.ext hE (by simp)).cell;have q5l:=(HB5.o.ext hE (by simp)).lt;clear hE;have e9:((n:Int)==0)=decide ((n:Int)=0):=by rw[Bool.eq_iff_iff];simp
 cases hz:(decide (y0=0)&&decide (l=0))
 ·have HZ:=hd hz;clear hz;go_wp2_with fail
  go_ret
  exact⟨ret_bool (by have hz:=HZ.o;simp at hz⊢;try simp_all),HE5.o⟩
 ·have HZ:=hd hz;clear hz;go_wp2_with fail
  go_ret
  exact⟨ret_bool (by have hz:=HZ.o;simp[H_x1.o,H_x2.o,H_x3.o,H_x5.o,H_x6.o] at hz⊢;try simp_all),HE5.o⟩
set_option maxHeartbeats 8000000 in
set_option maxRecDepth 100000 in
theorem exprForm_2 (x1 x2 x3 x4 x5 x6 y0:Int)(y1:Option Addr)(l y2:Nat)(x8:Option Addr)(n x9:Nat)(w:World) :
  Calls Tryz.prog 170 #[.agg #[.int .i64 2,.int .i64 x1,.int .i64 x2,.int .i64 x3,.int .i64 x4,.int .i64 x5,.int .i64 x6,.int .i64 y0,.slice y1 l y2,.slice x8 n x9]] w fun e w'=>
   e=.returned (.bool (decide (x1=0)&&decide (x2=0)&&decide (x3=0)&&decide (x4=0)&&decide (x5=0)&&decide (x6=0)&&(decide (0=0)&&decide (0=0))&&decide ((n:Int)=0)))/\Ext [] w w':=by
 have HE2:=hd (((Ext.refl [] w).alloc (.cells #[.int .i64 2,.int .i64 x1,.int .i64 x2,.int .i64 x3,.int .i64 x4,.int .i64 x5,.int .i64 x6,.int .i64 y0,.slice y1 l y2,.slice x8 n x9] 41)).alloc (.cells #[.int .i64 2,.int .i64 x1,.int .i64 x2,.int .i64 x3,.int .i64 x4,.int .i64 x5,.int .i64 x6,.int .i64 y0,.slice y1 l y2,.slice x8 n x9] 41));have HB1:=hd ((Blk.new w 41 #[.int .i64 2,.int .i64 x1,.int .i64 x2,.int .i64 x3,.int .i64 x4,.int .i64 x5,.int .i64 x6,.int .i64 y0,.slice y1 l y2,.slice x8 n x9]).ext ((Ext.refl [] _).alloc (.cells #[.int .i64 2,.int .i64 x1,.int .i64 x2,.int .i64 x3,.int .i64 x4,.int .i64 x5,.int .i64 x6,.int .i64 y0,.slice y1 l y2,.slice x8 n x9] 41)) (by simp));have HB3:=hd (Blk.new (w.alloc (.cells #[.int .i64 2,.int .i64 x1,.int .i64 x2,.int .i64 x3,.int .i64 x4,.int .i64 x5,.int .i64 x6,.int .i64 y0,.slice y1 l y2,.slice x8 n x9] 41)) 41 #[.int .i64 2,.int .i64 x1,.int .i64 x2,.int .i64 x3,.int .i64 x4,.int .i64 x5,.int .i64 x6,.int .i64 y0,.slice y1 l y2,.slice x8 n x9]);rw[alloc_sizeR] at HB3;go_enter Tryz.func170,Tryz.ntmps170
 go_upto_region 2 with fail
 generalize World.alloc (World.alloc w _) _=w2 at *;generalize hs:w.heap.size=s at *;have q1:=HB1.o.cell;have q1l:=HB1.o.lt;have q3:=HB3.o.cell;have q3f:=HB3.o.frozen;have q3l:=HB3.o.lt;go_upto_region 21 with fail
 have HB4:=hd ((HB3.o.set_' 7 (.int .i64 0) #[.int .i64 2,.int .i64 x1,.int .i64 x2,.int .i64 x3,.int .i64 x4,.int .i64 x5,.int .i64 x6,.int .i64 0,.slice y1 l y2,.slice x8 n x9] rfl).set_' 8 (.slice none 0 0) #[.int .i64 2,.int .i64 x1,.int .i64 x2,.int .i64 x3,.int .i64 x4,.int .i64 x5,.int .i64 x6,.int .i64 0,.slice none 0 0,.slice x8 n x9] rfl);have HE4:=hd (Ext.setAt (b:=s+1) (i:=8) (u:=.slice none 0 0) (.inl (by simp)) (Ext.setAt (b:=s+1) (i:=7) (u:=.int .i64 0) (.inl (by simp)) (Ext.refl [s+1] w2)));have HEW:=hd (HE2.o.nil.step HE4.o fun x hx=>.inr (by rw[List.mem_singleton.1 hx];omega):Ext [] w _);have HB5:=hd (HB1.o.ext HE4.o (fun hm=>by rw[List.mem_singleton] at hm;omega));generalize ((w2.setCell ⟨s+1,7,none⟩ (.int .i64 0)).setCell ⟨s+1,8,none⟩ (.slice none 0 0))=w4 at *;clear q1 q1l q3 q3f q3l HB1 HB3 HE2 HE4;have q3:=HB4.o.cell;have q3l:=HB4.o.lt;have q1:=HB5.o.cell;have q1l:=HB5.o.lt;by_cases h_x1:x1=0
 case neg=>
  have e_x1:(x1==0)=false:=by simpa using h_x1
  have H_x1:=hd h_x1;clear h_x1;go_wp2_with fail
  go_ret
  exact⟨ret_bool (by have:=H_x1.o;simp[this]),HEW.o⟩
 have e_x1:(x1==0)=true:=by simpa using h_x1
 have H_x1:=hd h_x1;clear h_x1;by_cases h_x2:x2=0
 case neg=>
  have e_x2:(x2==0)=false:=by simpa using h_x2
  have H_x2:=hd h_x2;clear h_x2;go_wp2_with fail
  go_ret
  exact⟨ret_bool (by have:=H_x2.o;simp[this]),HEW.o⟩
 have e_x2:(x2==0)=true:=by simpa using h_x2
 have H_x2:=hd h_x2;clear h_x2;by_cases h_x3:x3=0
 case neg=>
  have e_x3:(x3==0)=false:=by simpa using h_x3
  have H_x3:=hd h_x3;clear h_x3;go_wp2_with fail
  go_ret
  exact⟨ret_bool (by have:=H_x3.o;simp[this]),HEW.o⟩
 have e_x3:(x3==0)=true:=by simpa using h_x3
 have H_x3:=hd h_x3;clear h_x3;by_cases h_x4:x4=0
 case neg=>
  have e_x4:(x4==0)=false:=by simpa using h_x4
  have H_x4:=hd h_x4;clear h_x4;go_wp2_with fail
  go_ret
  exact⟨ret_bool (by have:=H_x4.o;simp[this]),HEW.o⟩
 have e_x4:(x4==0)=true:=by simpa using h_x4
 have H_x4:=hd h_x4;clear h_x4;by_cases h_x5:x5=0
 case neg=>
  have e_x5:(x5==0)=false:=by simpa using h_x5
  have H_x5:=hd h_x5;clear h_x5;go_wp2_with fail
  go_ret
  exact⟨ret_bool (by have:=H_x5.o;simp[this]),HEW.o⟩
 have e_x5:(x5==0)=true:=by simpa using h_x5
 have H_x5:=hd h_x5;clear h_x5;by_cases h_x6:x6=0
 case neg=>
  have e_x6:(x6==0)=false:=by simpa using h_x6
  have H_x6:=hd h_x6;clear h_x6;go_wp2_with fail
  go_ret
  exact⟨ret_bool (by have:=H_x6.o;simp[this]),HEW.o⟩
 have e_x6:(x6==0)=true:=by simpa using h_x6
 have H_x6:=hd h_x6;clear h_x6;go_wp2_with fail
 refine(zeroAffineR_any _ _ _ _ _).mono ?_
 rintro e w5 ⟨rfl,hE⟩;have HE5:=hd (HEW.o.trans hE);have q5:=(HB5.o.ext hE (by simp)).cell;have q5l:=(HB5.o.ext hE (by simp)).lt;clear hE;have e9:((n:Int)==0)=decide ((n:Int)=0):=by rw[Bool.eq_iff_iff];simp
 cases hz:(decide (0=0)&&decide ((0:Nat)=0))
 ·have HZ:=hd hz;clear hz;go_wp2_with fail
  go_ret
  exact⟨ret_bool (by have hz:=HZ.o;simp at hz⊢;try simp_all),HE5.o⟩
 ·have HZ:=hd hz;clear hz;go_wp2_with fail
  go_ret
  exact⟨ret_bool (by have hz:=HZ.o;simp[H_x1.o,H_x2.o,H_x3.o,H_x4.o,H_x5.o,H_x6.o] at hz⊢;try simp_all),HE5.o⟩
set_option maxHeartbeats 8000000 in
set_option maxRecDepth 100000 in
theorem exprForm_3 (x1 x2 x3 x4 x5 x6 y0:Int)(y1:Option Addr)(l y2:Nat)(x8:Option Addr)(n x9:Nat)(w:World) :
  Calls Tryz.prog 170 #[.agg #[.int .i64 3,.int .i64 x1,.int .i64 x2,.int .i64 x3,.int .i64 x4,.int .i64 x5,.int .i64 x6,.int .i64 y0,.slice y1 l y2,.slice x8 n x9]] w fun e w'=>
   e=.returned (.bool (decide (x1=0)&&decide (x2=0)&&decide (x3=0)&&decide (x4=0)&&decide (x5=0)&&(decide (0=0)&&decide (0=0))&&decide ((n:Int)=0)))/\Ext [] w w':=by
 have HE2:=hd (((Ext.refl [] w).alloc (.cells #[.int .i64 3,.int .i64 x1,.int .i64 x2,.int .i64 x3,.int .i64 x4,.int .i64 x5,.int .i64 x6,.int .i64 y0,.slice y1 l y2,.slice x8 n x9] 41)).alloc (.cells #[.int .i64 3,.int .i64 x1,.int .i64 x2,.int .i64 x3,.int .i64 x4,.int .i64 x5,.int .i64 x6,.int .i64 y0,.slice y1 l y2,.slice x8 n x9] 41));have HB1:=hd ((Blk.new w 41 #[.int .i64 3,.int .i64 x1,.int .i64 x2,.int .i64 x3,.int .i64 x4,.int .i64 x5,.int .i64 x6,.int .i64 y0,.slice y1 l y2,.slice x8 n x9]).ext ((Ext.refl [] _).alloc (.cells #[.int .i64 3,.int .i64 x1,.int .i64 x2,.int .i64 x3,.int .i64 x4,.int .i64 x5,.int .i64 x6,.int .i64 y0,.slice y1 l y2,.slice x8 n x9] 41)) (by simp));have HB3:=hd (Blk.new (w.alloc (.cells #[.int .i64 3,.int .i64 x1,.int .i64 x2,.int .i64 x3,.int .i64 x4,.int .i64 x5,.int .i64 x6,.int .i64 y0,.slice y1 l y2,.slice x8 n x9] 41)) 41 #[.int .i64 3,.int .i64 x1,.int .i64 x2,.int .i64 x3,.int .i64 x4,.int .i64 x5,.int .i64 x6,.int .i64 y0,.slice y1 l y2,.slice x8 n x9]);rw[alloc_sizeR] at HB3;go_enter Tryz.func170,Tryz.ntmps170
 go_upto_region 2 with fail
 generalize World.alloc (World.alloc w _) _=w2 at *;generalize hs:w.heap.size=s at *;have q1:=HB1.o.cell;have q1l:=HB1.o.lt;have q3:=HB3.o.cell;have q3f:=HB3.o.frozen;have q3l:=HB3.o.lt;go_upto_region 21 with fail
 have HB4:=hd (((HB3.o.set_' 7 (.int .i64 0) #[.int .i64 3,.int .i64 x1,.int .i64 x2,.int .i64 x3,.int .i64 x4,.int .i64 x5,.int .i64 x6,.int .i64 0,.slice y1 l y2,.slice x8 n x9] rfl).set_' 8 (.slice none 0 0) #[.int .i64 3,.int .i64 x1,.int .i64 x2,.int .i64 x3,.int .i64 x4,.int .i64 x5,.int .i64 x6,.int .i64 0,.slice none 0 0,.slice x8 n x9] rfl).set_' 6 (.int .i64 0) #[.int .i64 3,.int .i64 x1,.int .i64 x2,.int .i64 x3,.int .i64 x4,.int .i64 x5,.int .i64 0,.int .i64 0,.slice none 0 0,.slice x8 n x9] rfl);have HE4:=hd (Ext.setAt (b:=s+1) (i:=6) (u:=.int .i64 0) (.inl (by simp)) (Ext.setAt (b:=s+1) (i:=8) (u:=.slice none 0 0) (.inl (by simp)) (Ext.setAt (b:=s+1) (i:=7) (u:=.int .i64 0) (.inl (by simp)) (Ext.refl [s+1] w2))));have HEW:=hd (HE2.o.nil.step HE4.o fun x hx=>.inr (by rw[List.mem_singleton.1 hx];omega):Ext [] w _);have HB5:=hd (HB1.o.ext HE4.o (fun hm=>by rw[List.mem_singleton] at hm;omega));generalize (((w2.setCell ⟨s+1,7,none⟩ (.int .i64 0)).setCell ⟨s+1,8,none⟩ (.slice none 0 0)).setCell ⟨s+1,6,none⟩ (.int .i64 0))=w4 at *;clear q1 q1l q3 q3f q3l HB1 HB3 HE2 HE4;have q3:=HB4.o.cell;have q3l:=HB4.o.lt;have q1:=HB5.o.cell;have q1l:=HB5.o.lt;by_cases h_x1:x1=0
 case neg=>
  have e_x1:(x1==0)=false:=by simpa using h_x1
  have H_x1:=hd h_x1;clear h_x1;go_wp2_with fail
  go_ret
  exact⟨ret_bool (by have:=H_x1.o;simp[this]),HEW.o⟩
 have e_x1:(x1==0)=true:=by simpa using h_x1
 have H_x1:=hd h_x1;clear h_x1;by_cases h_x2:x2=0
 case neg=>
  have e_x2:(x2==0)=false:=by simpa using h_x2
  have H_x2:=hd h_x2;clear h_x2;go_wp2_with fail
  go_ret
  exact⟨ret_bool (by have:=H_x2.o;simp[this]),HEW.o⟩
 have e_x2:(x2==0)=true:=by simpa using h_x2
 have H_x2:=hd h_x2;clear h_x2;by_cases h_x3:x3=0
 case neg=>
  have e_x3:(x3==0)=false:=by simpa using h_x3
  have H_x3:=hd h_x3;clear h_x3;go_wp2_with fail
  go_ret
  exact⟨ret_bool (by have:=H_x3.o;simp[this]),HEW.o⟩
 have e_x3:(x3==0)=true:=by simpa using h_x3
 have H_x3:=hd h_x3;clear h_x3;by_cases h_x4:x4=0
 case neg=>
  have e_x4:(x4==0)=false:=by simpa using h_x4
  have H_x4:=hd h_x4;clear h_x4;go_wp2_with fail
  go_ret
  exact⟨ret_bool (by have:=H_x4.o;simp[this]),HEW.o⟩
 have e_x4:(x4==0)=true:=by simpa using h_x4
 have H_x4:=hd h_x4;clear h_x4;by_cases h_x5:x5=0
 case neg=>
  have e_x5:(x5==0)=false:=by simpa using h_x5
  have H_x5:=hd h_x5;clear h_x5;go_wp2_with fail
  go_ret
  exact⟨ret_bool (by have:=H_x5.o;simp[this]),HEW.o⟩
 have e_x5:(x5==0)=true:=by simpa using h_x5
 have H_x5:=hd h_x5;clear h_x5;go_wp2_with fail
 refine(zeroAffineR_any _ _ _ _ _).mono ?_
 rintro e w5 ⟨rfl,hE⟩;have HE5:=hd (HEW.o.trans hE);have q5:=(HB5.o.ext hE (by simp)).cell;have q5l:=(HB5.o.ext hE (by simp)).lt;clear hE;have e9:((n:Int)==0)=decide ((n:Int)=0):=by rw[Bool.eq_iff_iff];simp
 cases hz:(decide (0=0)&&decide ((0:Nat)=0))
 ·have HZ:=hd hz;clear hz;go_wp2_with fail
  go_ret
  exact⟨ret_bool (by have hz:=HZ.o;simp at hz⊢;try simp_all),HE5.o⟩
 ·have HZ:=hd hz;clear hz;go_wp2_with fail
  go_ret
  exact⟨ret_bool (by have hz:=HZ.o;simp[H_x1.o,H_x2.o,H_x3.o,H_x4.o,H_x5.o] at hz⊢;try simp_all),HE5.o⟩
set_option maxHeartbeats 8000000 in
set_option maxRecDepth 100000 in
theorem exprForm_4 (x1 x2 x3 x4 x5 x6 y0:Int)(y1:Option Addr)(l y2:Nat)(x8:Option Addr)(n x9:Nat)(w:World) :
  Calls Tryz.prog 170 #[.agg #[.int .i64 4,.int .i64 x1,.int .i64 x2,.int .i64 x3,.int .i64 x4,.int .i64 x5,.int .i64 x6,.int .i64 y0,.slice y1 l y2,.slice x8 n x9]] w fun e w'=>
   e=.returned (.bool (decide (x1=0)&&decide (x3=0)&&(decide (0=0)&&decide (0=0))&&decide ((n:Int)=1)))/\Ext [] w w':=by
 have HE2:=hd (((Ext.refl [] w).alloc (.cells #[.int .i64 4,.int .i64 x1,.int .i64 x2,.int .i64 x3,.int .i64 x4,.int .i64 x5,.int .i64 x6,.int .i64 y0,.slice y1 l y2,.slice x8 n x9] 41)).alloc (.cells #[.int .i64 4,.int .i64 x1,.int .i64 x2,.int .i64 x3,.int .i64 x4,.int .i64 x5,.int .i64 x6,.int .i64 y0,.slice y1 l y2,.slice x8 n x9] 41));have HB1:=hd ((Blk.new w 41 #[.int .i64 4,.int .i64 x1,.int .i64 x2,.int .i64 x3,.int .i64 x4,.int .i64 x5,.int .i64 x6,.int .i64 y0,.slice y1 l y2,.slice x8 n x9]).ext ((Ext.refl [] _).alloc (.cells #[.int .i64 4,.int .i64 x1,.int .i64 x2,.int .i64 x3,.int .i64 x4,.int .i64 x5,.int .i64 x6,.int .i64 y0,.slice y1 l y2,.slice x8 n x9] 41)) (by simp));have HB3:=hd (Blk.new (w.alloc (.cells #[.int .i64 4,.int .i64 x1,.int .i64 x2,.int .i64 x3,.int .i64 x4,.int .i64 x5,.int .i64 x6,.int .i64 y0,.slice y1 l y2,.slice x8 n x9] 41)) 41 #[.int .i64 4,.int .i64 x1,.int .i64 x2,.int .i64 x3,.int .i64 x4,.int .i64 x5,.int .i64 x6,.int .i64 y0,.slice y1 l y2,.slice x8 n x9]);rw[alloc_sizeR] at HB3;go_enter Tryz.func170,Tryz.ntmps170
 go_upto_region 2 with fail
 generalize World.alloc (World.alloc w _) _=w2 at *;generalize hs:w.heap.size=s at *;have q1:=HB1.o.cell;have q1l:=HB1.o.lt;have q3:=HB3.o.cell;have q3f:=HB3.o.frozen;have q3l:=HB3.o.lt;go_upto_region 21 with fail
 have HB4:=hd ((((((HB3.o.set_' 7 (.int .i64 0) #[.int .i64 4,.int .i64 x1,.int .i64 x2,.int .i64 x3,.int .i64 x4,.int .i64 x5,.int .i64 x6,.int .i64 0,.slice y1 l y2,.slice x8 n x9] rfl).set_' 8 (.slice none 0 0) #[.int .i64 4,.int .i64 x1,.int .i64 x2,.int .i64 x3,.int .i64 x4,.int .i64 x5,.int .i64 x6,.int .i64 0,.slice none 0 0,.slice x8 n x9] rfl).set_' 6 (.int .i64 0) #[.int .i64 4,.int .i64 x1,.int .i64 x2,.int .i64 x3,.int .i64 x4,.int .i64 x5,.int .i64 0,.int .i64 0,.slice none 0 0,.slice x8 n x9] rfl).set_' 2 (.int .i64 0) #[.int .i64 4,.int .i64 x1,.int .i64 0,.int .i64 x3,.int .i64 x4,.int .i64 x5,.int .i64 0,.int .i64 0,.slice none 0 0,.slice x8 n x9] rfl).set_' 4 (.int .i64 0) #[.int .i64 4,.int .i64 x1,.int .i64 0,.int .i64 x3,.int .i64 0,.int .i64 x5,.int .i64 0,.int .i64 0,.slice none 0 0,.slice x8 n x9] rfl).set_' 5 (.int .i64 0) #[.int .i64 4,.int .i64 x1,.int .i64 0,.int .i64 x3,.int .i64 0,.int .i64 0,.int .i64 0,.int .i64 0,.slice none 0 0,.slice x8 n x9] rfl);have HE4:=hd (Ext.setAt (b:=s+1) (i:=5) (u:=.int .i64 0) (.inl (by simp)) (Ext.setAt (b:=s+1) (i:=4) (u:=.int .i64 0) (.inl (by simp)) (Ext.setAt (b:=s+1) (i:=2) (u:=.int .i64 0) (.inl (by simp)) (Ext.setAt (b:=s+1) (i:=6) (u:=.int .i64 0) (.inl (by simp)) (Ext.setAt (b:=s+1) (i:=8) (u:=.slice none 0 0) (.inl (by simp)) (Ext.setAt (b:=s+1) (i:=7) (u:=.int .i64 0) (.inl (by simp)) (Ext.refl [s+1] w2)))))));have HEW:=hd (HE2.o.nil.step HE4.o fun x hx=>.inr (by rw[List.mem_singleton.1 hx];omega):Ext [] w _);have HB5:=hd (HB1.o.ext HE4.o (fun hm=>by rw[List.mem_singleton] at hm;omega));generalize ((((((w2.setCell ⟨s+1,7,none⟩ (.int .i64 0)).setCell ⟨s+1,8,none⟩ (.slice none 0 0)).setCell ⟨s+1,6,none⟩ (.int .i64 0)).setCell ⟨s+1,2,none⟩ (.int .i64 0)).setCell ⟨s+1,4,none⟩ (.int .i64 0)).setCell ⟨s+1,5,none⟩ (.int .i64 0))=w4 at *;clear q1 q1l q3 q3f q3l HB1 HB3 HE2 HE4;have q3:=HB4.o.cell;have q3l:=HB4.o.lt;have q1:=HB5.o.cell;have q1l:=HB5.o.lt;by_cases h_x1:x1=0
 case neg=>
  have e_x1:(x1==0)=false:=by simpa using h_x1
  have H_x1:=hd h_x1;clear h_x1;go_wp2_with fail
  go_ret
  exact⟨ret_bool (by have:=H_x1.o;simp[this]),HEW.o⟩
 have e_x1:(x1==0)=true:=by simpa using h_x1
 have H_x1:=hd h_x1;clear h_x1;by_cases h_x3:x3=0
 case neg=>
  have e_x3:(x3==0)=false:=by simpa using h_x3
  have H_x3:=hd h_x3;clear h_x3;go_wp2_with fail
  go_ret
  exact⟨ret_bool (by have:=H_x3.o;simp[this]),HEW.o⟩
 have e_x3:(x3==0)=true:=by simpa using h_x3
 have H_x3:=hd h_x3;clear h_x3;go_wp2_with fail
 refine(zeroAffineR_any _ _ _ _ _).mono ?_
 rintro e w5 ⟨rfl,hE⟩;have HE5:=hd (HEW.o.trans hE);have q5:=(HB5.o.ext hE (by simp)).cell;have q5l:=(HB5.o.ext hE (by simp)).lt;clear hE;have e9:((n:Int)==1)=decide ((n:Int)=1):=by rw[Bool.eq_iff_iff];simp
 cases hz:(decide (0=0)&&decide ((0:Nat)=0))
 ·have HZ:=hd hz;clear hz;go_wp2_with fail
  go_ret
  exact⟨ret_bool (by have hz:=HZ.o;simp at hz⊢;try simp_all),HE5.o⟩
 ·have HZ:=hd hz;clear hz;go_wp2_with fail
  go_ret
  exact⟨ret_bool (by have hz:=HZ.o;simp[H_x1.o,H_x3.o] at hz⊢;try simp_all),HE5.o⟩
set_option maxHeartbeats 8000000 in
set_option maxRecDepth 100000 in
theorem exprForm_512 (x2 x3 x4 x5 x6 y0:Int)(y1:Option Addr)(l y2:Nat)(x8:Option Addr)(n x9:Nat)(w:World) :
  Calls Tryz.prog 170 #[.agg #[.int .i64 5,.int .i64 12,.int .i64 x2,.int .i64 x3,.int .i64 x4,.int .i64 x5,.int .i64 x6,.int .i64 y0,.slice y1 l y2,.slice x8 n x9]] w fun e w'=>
   e=.returned (.bool (decide (x4=0)&&decide (x5=0)&&decide (x6=0)&&(decide (y0=0)&&decide (l=0))&&decide ((n:Int)=1)))/\Ext [] w w':=by
 have HE2:=hd (((Ext.refl [] w).alloc (.cells #[.int .i64 5,.int .i64 12,.int .i64 x2,.int .i64 x3,.int .i64 x4,.int .i64 x5,.int .i64 x6,.int .i64 y0,.slice y1 l y2,.slice x8 n x9] 41)).alloc (.cells #[.int .i64 5,.int .i64 12,.int .i64 x2,.int .i64 x3,.int .i64 x4,.int .i64 x5,.int .i64 x6,.int .i64 y0,.slice y1 l y2,.slice x8 n x9] 41));have HB1:=hd ((Blk.new w 41 #[.int .i64 5,.int .i64 12,.int .i64 x2,.int .i64 x3,.int .i64 x4,.int .i64 x5,.int .i64 x6,.int .i64 y0,.slice y1 l y2,.slice x8 n x9]).ext ((Ext.refl [] _).alloc (.cells #[.int .i64 5,.int .i64 12,.int .i64 x2,.int .i64 x3,.int .i64 x4,.int .i64 x5,.int .i64 x6,.int .i64 y0,.slice y1 l y2,.slice x8 n x9] 41)) (by simp));have HB3:=hd (Blk.new (w.alloc (.cells #[.int .i64 5,.int .i64 12,.int .i64 x2,.int .i64 x3,.int .i64 x4,.int .i64 x5,.int .i64 x6,.int .i64 y0,.slice y1 l y2,.slice x8 n x9] 41)) 41 #[.int .i64 5,.int .i64 12,.int .i64 x2,.int .i64 x3,.int .i64 x4,.int .i64 x5,.int .i64 x6,.int .i64 y0,.slice y1 l y2,.slice x8 n x9]);rw[alloc_sizeR] at HB3;go_enter Tryz.func170,Tryz.ntmps170
 go_upto_region 2 with fail
 generalize World.alloc (World.alloc w _) _=w2 at *;generalize hs:w.heap.size=s at *;have q1:=HB1.o.cell;have q1l:=HB1.o.lt;have q3:=HB3.o.cell;have q3f:=HB3.o.frozen;have q3l:=HB3.o.lt;go_upto_region 4 with fail
 go_wp2_with fail
 refine(operands_any (12) w2).mono ?_
 rintro e w' ⟨rfl,rfl⟩;rw[show operN 12=1 from rfl];go_upto_region 21 with fail
 have HB4:=hd (((HB3.o.set_' 2 (.int .i64 0) #[.int .i64 5,.int .i64 12,.int .i64 0,.int .i64 x3,.int .i64 x4,.int .i64 x5,.int .i64 x6,.int .i64 y0,.slice y1 l y2,.slice x8 n x9] rfl).set_' 3 (.int .i64 0) #[.int .i64 5,.int .i64 12,.int .i64 0,.int .i64 0,.int .i64 x4,.int .i64 x5,.int .i64 x6,.int .i64 y0,.slice y1 l y2,.slice x8 n x9] rfl).set_' 1 (.int .i64 0) #[.int .i64 5,.int .i64 0,.int .i64 0,.int .i64 0,.int .i64 x4,.int .i64 x5,.int .i64 x6,.int .i64 y0,.slice y1 l y2,.slice x8 n x9] rfl);have HE4:=hd (Ext.setAt (b:=s+1) (i:=1) (u:=.int .i64 0) (.inl (by simp)) (Ext.setAt (b:=s+1) (i:=3) (u:=.int .i64 0) (.inl (by simp)) (Ext.setAt (b:=s+1) (i:=2) (u:=.int .i64 0) (.inl (by simp)) (Ext.refl [s+1] w2))));have HEW:=hd (HE2.o.nil.step HE4.o fun x hx=>.inr (by rw[List.mem_singleton.1 hx];omega):Ext [] w _);have HB5:=hd (HB1.o.ext HE4.o (fun hm=>by rw[List.mem_singleton] at hm;omega));generalize (((w2.setCell ⟨s+1,2,none⟩ (.int .i64 0)).setCell ⟨s+1,3,none⟩ (.int .i64 0)).setCell ⟨s+1,1,none⟩ (.int .i64 0))=w4 at *;clear q1 q1l q3 q3f q3l HB1 HB3 HE2 HE4;have q3:=HB4.o.cell;have q3l:=HB4.o.lt;have q1:=HB5.o.cell;have q1l:=HB5.o.lt;by_cases h_x4:x4=0
 case neg=>
  have e_x4:(x4==0)=false:=by simpa using h_x4
  have H_x4:=hd h_x4;clear h_x4;go_wp2_with fail
  go_ret
  exact⟨ret_bool (by have:=H_x4.o;simp[this]),HEW.o⟩
 have e_x4:(x4==0)=true:=by simpa using h_x4
 have H_x4:=hd h_x4;clear h_x4;by_cases h_x5:x5=0
 case neg=>
  have e_x5:(x5==0)=false:=by simpa using h_x5
  have H_x5:=hd h_x5;clear h_x5;go_wp2_with fail
  go_ret
  exact⟨ret_bool (by have:=H_x5.o;simp[this]),HEW.o⟩
 have e_x5:(x5==0)=true:=by simpa using h_x5
 have H_x5:=hd h_x5;clear h_x5;by_cases h_x6:x6=0
 case neg=>
  have e_x6:(x6==0)=false:=by simpa using h_x6
  have H_x6:=hd h_x6;clear h_x6;go_wp2_with fail
  go_ret
  exact⟨ret_bool (by have:=H_x6.o;simp[this]),HEW.o⟩
 have e_x6:(x6==0)=true:=by simpa using h_x6
 have H_x6:=hd h_x6;clear h_x6;go_wp2_with fail
 refine(zeroAffineR_any _ _ _ _ _).mono ?_
 rintro e w5 ⟨rfl,hE⟩;have HE5:=hd (HEW.o.trans hE);have q5:=(HB5.o.ext hE (by simp)).cell;have q5l:=(HB5.o.ext hE (by simp)).lt;clear hE;have e9:((n:Int)==1)=decide ((n:Int)=1):=by rw[Bool.eq_iff_iff];simp
 cases hz:(decide (y0=0)&&decide (l=0))
 ·have HZ:=hd hz;clear hz;go_wp2_with fail
  go_ret
  exact⟨ret_bool (by have hz:=HZ.o;simp at hz⊢;try simp_all),HE5.o⟩
 ·have HZ:=hd hz;clear hz;go_wp2_with fail
  go_ret
  exact⟨ret_bool (by have hz:=HZ.o;simp[H_x4.o,H_x5.o,H_x6.o] at hz⊢;try simp_all),HE5.o⟩
set_option maxHeartbeats 8000000 in
set_option maxRecDepth 100000 in
theorem exprForm_513 (x2 x3 x4 x5 x6 y0:Int)(y1:Option Addr)(l y2:Nat)(x8:Option Addr)(n x9:Nat)(w:World) :
  Calls Tryz.prog 170 #[.agg #[.int .i64 5,.int .i64 13,.int .i64 x2,.int .i64 x3,.int .i64 x4,.int .i64 x5,.int .i64 x6,.int .i64 y0,.slice y1 l y2,.slice x8 n x9]] w fun e w'=>
   e=.returned (.bool (decide (x2=0)&&decide (x3=0)&&decide (x5=0)&&decide (x6=0)&&(decide (y0=0)&&decide (l=0))&&decide ((n:Int)=1)))/\Ext [] w w':=by
 have HE2:=hd (((Ext.refl [] w).alloc (.cells #[.int .i64 5,.int .i64 13,.int .i64 x2,.int .i64 x3,.int .i64 x4,.int .i64 x5,.int .i64 x6,.int .i64 y0,.slice y1 l y2,.slice x8 n x9] 41)).alloc (.cells #[.int .i64 5,.int .i64 13,.int .i64 x2,.int .i64 x3,.int .i64 x4,.int .i64 x5,.int .i64 x6,.int .i64 y0,.slice y1 l y2,.slice x8 n x9] 41));have HB1:=hd ((Blk.new w 41 #[.int .i64 5,.int .i64 13,.int .i64 x2,.int .i64 x3,.int .i64 x4,.int .i64 x5,.int .i64 x6,.int .i64 y0,.slice y1 l y2,.slice x8 n x9]).ext ((Ext.refl [] _).alloc (.cells #[.int .i64 5,.int .i64 13,.int .i64 x2,.int .i64 x3,.int .i64 x4,.int .i64 x5,.int .i64 x6,.int .i64 y0,.slice y1 l y2,.slice x8 n x9] 41)) (by simp));have HB3:=hd (Blk.new (w.alloc (.cells #[.int .i64 5,.int .i64 13,.int .i64 x2,.int .i64 x3,.int .i64 x4,.int .i64 x5,.int .i64 x6,.int .i64 y0,.slice y1 l y2,.slice x8 n x9] 41)) 41 #[.int .i64 5,.int .i64 13,.int .i64 x2,.int .i64 x3,.int .i64 x4,.int .i64 x5,.int .i64 x6,.int .i64 y0,.slice y1 l y2,.slice x8 n x9]);rw[alloc_sizeR] at HB3;go_enter Tryz.func170,Tryz.ntmps170
 go_upto_region 2 with fail
 generalize World.alloc (World.alloc w _) _=w2 at *;generalize hs:w.heap.size=s at *;have q1:=HB1.o.cell;have q1l:=HB1.o.lt;have q3:=HB3.o.cell;have q3f:=HB3.o.frozen;have q3l:=HB3.o.lt;go_upto_region 4 with fail
 go_wp2_with fail
 refine(operands_any (13) w2).mono ?_
 rintro e w' ⟨rfl,rfl⟩;rw[show operN 13=1 from rfl];go_upto_region 21 with fail
 have HB4:=hd ((HB3.o.set_' 4 (.int .i64 0) #[.int .i64 5,.int .i64 13,.int .i64 x2,.int .i64 x3,.int .i64 0,.int .i64 x5,.int .i64 x6,.int .i64 y0,.slice y1 l y2,.slice x8 n x9] rfl).set_' 1 (.int .i64 0) #[.int .i64 5,.int .i64 0,.int .i64 x2,.int .i64 x3,.int .i64 0,.int .i64 x5,.int .i64 x6,.int .i64 y0,.slice y1 l y2,.slice x8 n x9] rfl);have HE4:=hd (Ext.setAt (b:=s+1) (i:=1) (u:=.int .i64 0) (.inl (by simp)) (Ext.setAt (b:=s+1) (i:=4) (u:=.int .i64 0) (.inl (by simp)) (Ext.refl [s+1] w2)));have HEW:=hd (HE2.o.nil.step HE4.o fun x hx=>.inr (by rw[List.mem_singleton.1 hx];omega):Ext [] w _);have HB5:=hd (HB1.o.ext HE4.o (fun hm=>by rw[List.mem_singleton] at hm;omega));generalize ((w2.setCell ⟨s+1,4,none⟩ (.int .i64 0)).setCell ⟨s+1,1,none⟩ (.int .i64 0))=w4 at *;clear q1 q1l q3 q3f q3l HB1 HB3 HE2 HE4;have q3:=HB4.o.cell;have q3l:=HB4.o.lt;have q1:=HB5.o.cell;have q1l:=HB5.o.lt;by_cases h_x2:x2=0
 case neg=>
  have e_x2:(x2==0)=false:=by simpa using h_x2
  have H_x2:=hd h_x2;clear h_x2;go_wp2_with fail
  go_ret
  exact⟨ret_bool (by have:=H_x2.o;simp[this]),HEW.o⟩
 have e_x2:(x2==0)=true:=by simpa using h_x2
 have H_x2:=hd h_x2;clear h_x2;by_cases h_x3:x3=0
 case neg=>
  have e_x3:(x3==0)=false:=by simpa using h_x3
  have H_x3:=hd h_x3;clear h_x3;go_wp2_with fail
  go_ret
  exact⟨ret_bool (by have:=H_x3.o;simp[this]),HEW.o⟩
 have e_x3:(x3==0)=true:=by simpa using h_x3
 have H_x3:=hd h_x3;clear h_x3;by_cases h_x5:x5=0
 case neg=>
  have e_x5:(x5==0)=false:=by simpa using h_x5
  have H_x5:=hd h_x5;clear h_x5;go_wp2_with fail
  go_ret
  exact⟨ret_bool (by have:=H_x5.o;simp[this]),HEW.o⟩
 have e_x5:(x5==0)=true:=by simpa using h_x5
 have H_x5:=hd h_x5;clear h_x5;by_cases h_x6:x6=0
 case neg=>
  have e_x6:(x6==0)=false:=by simpa using h_x6
  have H_x6:=hd h_x6;clear h_x6;go_wp2_with fail
  go_ret
  exact⟨ret_bool (by have:=H_x6.o;simp[this]),HEW.o⟩
 have e_x6:(x6==0)=true:=by simpa using h_x6
 have H_x6:=hd h_x6;clear h_x6;go_wp2_with fail
 refine(zeroAffineR_any _ _ _ _ _).mono ?_
 rintro e w5 ⟨rfl,hE⟩;have HE5:=hd (HEW.o.trans hE);have q5:=(HB5.o.ext hE (by simp)).cell;have q5l:=(HB5.o.ext hE (by simp)).lt;clear hE;have e9:((n:Int)==1)=decide ((n:Int)=1):=by rw[Bool.eq_iff_iff];simp
 cases hz:(decide (y0=0)&&decide (l=0))
 ·have HZ:=hd hz;clear hz;go_wp2_with fail
  go_ret
  exact⟨ret_bool (by have hz:=HZ.o;simp at hz⊢;try simp_all),HE5.o⟩
 ·have HZ:=hd hz;clear hz;go_wp2_with fail
  go_ret
  exact⟨ret_bool (by have hz:=HZ.o;simp[H_x2.o,H_x3.o,H_x5.o,H_x6.o] at hz⊢;try simp_all),HE5.o⟩
set_option maxHeartbeats 8000000 in
set_option maxRecDepth 100000 in
theorem exprForm_514 (x2 x3 x4 x5 x6 y0:Int)(y1:Option Addr)(l y2:Nat)(x8:Option Addr)(n x9:Nat)(w:World) :
  Calls Tryz.prog 170 #[.agg #[.int .i64 5,.int .i64 14,.int .i64 x2,.int .i64 x3,.int .i64 x4,.int .i64 x5,.int .i64 x6,.int .i64 y0,.slice y1 l y2,.slice x8 n x9]] w fun e w'=>
   e=.returned (.bool (decide (x2=0)&&decide (x3=0)&&decide (x5=0)&&decide (x6=0)&&(decide (y0=0)&&decide (l=0))&&decide ((n:Int)=1)))/\Ext [] w w':=by
 have HE2:=hd (((Ext.refl [] w).alloc (.cells #[.int .i64 5,.int .i64 14,.int .i64 x2,.int .i64 x3,.int .i64 x4,.int .i64 x5,.int .i64 x6,.int .i64 y0,.slice y1 l y2,.slice x8 n x9] 41)).alloc (.cells #[.int .i64 5,.int .i64 14,.int .i64 x2,.int .i64 x3,.int .i64 x4,.int .i64 x5,.int .i64 x6,.int .i64 y0,.slice y1 l y2,.slice x8 n x9] 41));have HB1:=hd ((Blk.new w 41 #[.int .i64 5,.int .i64 14,.int .i64 x2,.int .i64 x3,.int .i64 x4,.int .i64 x5,.int .i64 x6,.int .i64 y0,.slice y1 l y2,.slice x8 n x9]).ext ((Ext.refl [] _).alloc (.cells #[.int .i64 5,.int .i64 14,.int .i64 x2,.int .i64 x3,.int .i64 x4,.int .i64 x5,.int .i64 x6,.int .i64 y0,.slice y1 l y2,.slice x8 n x9] 41)) (by simp));have HB3:=hd (Blk.new (w.alloc (.cells #[.int .i64 5,.int .i64 14,.int .i64 x2,.int .i64 x3,.int .i64 x4,.int .i64 x5,.int .i64 x6,.int .i64 y0,.slice y1 l y2,.slice x8 n x9] 41)) 41 #[.int .i64 5,.int .i64 14,.int .i64 x2,.int .i64 x3,.int .i64 x4,.int .i64 x5,.int .i64 x6,.int .i64 y0,.slice y1 l y2,.slice x8 n x9]);rw[alloc_sizeR] at HB3;go_enter Tryz.func170,Tryz.ntmps170
 go_upto_region 2 with fail
 generalize World.alloc (World.alloc w _) _=w2 at *;generalize hs:w.heap.size=s at *;have q1:=HB1.o.cell;have q1l:=HB1.o.lt;have q3:=HB3.o.cell;have q3f:=HB3.o.frozen;have q3l:=HB3.o.lt;go_upto_region 4 with fail
 go_wp2_with fail
 refine(operands_any (14) w2).mono ?_
 rintro e w' ⟨rfl,rfl⟩;rw[show operN 14=1 from rfl];go_upto_region 21 with fail
 have HB4:=hd ((HB3.o.set_' 4 (.int .i64 0) #[.int .i64 5,.int .i64 14,.int .i64 x2,.int .i64 x3,.int .i64 0,.int .i64 x5,.int .i64 x6,.int .i64 y0,.slice y1 l y2,.slice x8 n x9] rfl).set_' 1 (.int .i64 0) #[.int .i64 5,.int .i64 0,.int .i64 x2,.int .i64 x3,.int .i64 0,.int .i64 x5,.int .i64 x6,.int .i64 y0,.slice y1 l y2,.slice x8 n x9] rfl);have HE4:=hd (Ext.setAt (b:=s+1) (i:=1) (u:=.int .i64 0) (.inl (by simp)) (Ext.setAt (b:=s+1) (i:=4) (u:=.int .i64 0) (.inl (by simp)) (Ext.refl [s+1] w2)));have HEW:=hd (HE2.o.nil.step HE4.o fun x hx=>.inr (by rw[List.mem_singleton.1 hx];omega):Ext [] w _);have HB5:=hd (HB1.o.ext HE4.o (fun hm=>by rw[List.mem_singleton] at hm;omega));generalize ((w2.setCell ⟨s+1,4,none⟩ (.int .i64 0)).setCell ⟨s+1,1,none⟩ (.int .i64 0))=w4 at *;clear q1 q1l q3 q3f q3l HB1 HB3 HE2 HE4;have q3:=HB4.o.cell;have q3l:=HB4.o.lt;have q1:=HB5.o.cell;have q1l:=HB5.o.lt;by_cases h_x2:x2=0
 case neg=>
  have e_x2:(x2==0)=false:=by simpa using h_x2
  have H_x2:=hd h_x2;clear h_x2;go_wp2_with fail
  go_ret
  exact⟨ret_bool (by have:=H_x2.o;simp[this]),HEW.o⟩
 have e_x2:(x2==0)=true:=by simpa using h_x2
 have H_x2:=hd h_x2;clear h_x2;by_cases h_x3:x3=0
 case neg=>
  have e_x3:(x3==0)=false:=by simpa using h_x3
  have H_x3:=hd h_x3;clear h_x3;go_wp2_with fail
  go_ret
  exact⟨ret_bool (by have:=H_x3.o;simp[this]),HEW.o⟩
 have e_x3:(x3==0)=true:=by simpa using h_x3
 have H_x3:=hd h_x3;clear h_x3;by_cases h_x5:x5=0
 case neg=>
  have e_x5:(x5==0)=false:=by simpa using h_x5
  have H_x5:=hd h_x5;clear h_x5;go_wp2_with fail
  go_ret
  exact⟨ret_bool (by have:=H_x5.o;simp[this]),HEW.o⟩
 have e_x5:(x5==0)=true:=by simpa using h_x5
 have H_x5:=hd h_x5;clear h_x5;by_cases h_x6:x6=0
 case neg=>
  have e_x6:(x6==0)=false:=by simpa using h_x6
  have H_x6:=hd h_x6;clear h_x6;go_wp2_with fail
  go_ret
  exact⟨ret_bool (by have:=H_x6.o;simp[this]),HEW.o⟩
 have e_x6:(x6==0)=true:=by simpa using h_x6
 have H_x6:=hd h_x6;clear h_x6;go_wp2_with fail
 refine(zeroAffineR_any _ _ _ _ _).mono ?_
 rintro e w5 ⟨rfl,hE⟩;have HE5:=hd (HEW.o.trans hE);have q5:=(HB5.o.ext hE (by simp)).cell;have q5l:=(HB5.o.ext hE (by simp)).lt;clear hE;have e9:((n:Int)==1)=decide ((n:Int)=1):=by rw[Bool.eq_iff_iff];simp
 cases hz:(decide (y0=0)&&decide (l=0))
 ·have HZ:=hd hz;clear hz;go_wp2_with fail
  go_ret
  exact⟨ret_bool (by have hz:=HZ.o;simp at hz⊢;try simp_all),HE5.o⟩
 ·have HZ:=hd hz;clear hz;go_wp2_with fail
  go_ret
  exact⟨ret_bool (by have hz:=HZ.o;simp[H_x2.o,H_x3.o,H_x5.o,H_x6.o] at hz⊢;try simp_all),HE5.o⟩
set_option maxHeartbeats 8000000 in
set_option maxRecDepth 100000 in
theorem exprForm_5 (x1 x2 x3 x4 x5 x6 y0:Int)(y1:Option Addr)(l y2:Nat)(x8:Option Addr)(n x9:Nat)(w:World)(h12:(x1==12)=false)(h13:(x1==13)=false)(h14:(x1==14)=false) :
  Calls Tryz.prog 170 #[.agg #[.int .i64 5,.int .i64 x1,.int .i64 x2,.int .i64 x3,.int .i64 x4,.int .i64 x5,.int .i64 x6,.int .i64 y0,.slice y1 l y2,.slice x8 n x9]] w fun e w'=>
   e=.returned (.bool (decide (x2=0)&&decide (x3=0)&&decide (x4=0)&&decide (x5=0)&&decide (x6=0)&&(decide (y0=0)&&decide (l=0))&&decide ((n:Int)=operN x1)))/\Ext [] w w':=by
 have HE2:=hd (((Ext.refl [] w).alloc (.cells #[.int .i64 5,.int .i64 x1,.int .i64 x2,.int .i64 x3,.int .i64 x4,.int .i64 x5,.int .i64 x6,.int .i64 y0,.slice y1 l y2,.slice x8 n x9] 41)).alloc (.cells #[.int .i64 5,.int .i64 x1,.int .i64 x2,.int .i64 x3,.int .i64 x4,.int .i64 x5,.int .i64 x6,.int .i64 y0,.slice y1 l y2,.slice x8 n x9] 41));have HB1:=hd ((Blk.new w 41 #[.int .i64 5,.int .i64 x1,.int .i64 x2,.int .i64 x3,.int .i64 x4,.int .i64 x5,.int .i64 x6,.int .i64 y0,.slice y1 l y2,.slice x8 n x9]).ext ((Ext.refl [] _).alloc (.cells #[.int .i64 5,.int .i64 x1,.int .i64 x2,.int .i64 x3,.int .i64 x4,.int .i64 x5,.int .i64 x6,.int .i64 y0,.slice y1 l y2,.slice x8 n x9] 41)) (by simp));have HB3:=hd (Blk.new (w.alloc (.cells #[.int .i64 5,.int .i64 x1,.int .i64 x2,.int .i64 x3,.int .i64 x4,.int .i64 x5,.int .i64 x6,.int .i64 y0,.slice y1 l y2,.slice x8 n x9] 41)) 41 #[.int .i64 5,.int .i64 x1,.int .i64 x2,.int .i64 x3,.int .i64 x4,.int .i64 x5,.int .i64 x6,.int .i64 y0,.slice y1 l y2,.slice x8 n x9]);rw[alloc_sizeR] at HB3;go_enter Tryz.func170,Tryz.ntmps170
 go_upto_region 2 with fail
 generalize World.alloc (World.alloc w _) _=w2 at *;generalize hs:w.heap.size=s at *;have q1:=HB1.o.cell;have q1l:=HB1.o.lt;have q3:=HB3.o.cell;have q3f:=HB3.o.frozen;have q3l:=HB3.o.lt;go_upto_region 4 with fail
 go_wp2_with fail
 refine(operands_any (x1) w2).mono ?_
 rintro e w' ⟨rfl,rfl⟩;go_upto_region 21 with fail
 have HB4:=hd (HB3.o.set_' 1 (.int .i64 0) #[.int .i64 5,.int .i64 0,.int .i64 x2,.int .i64 x3,.int .i64 x4,.int .i64 x5,.int .i64 x6,.int .i64 y0,.slice y1 l y2,.slice x8 n x9] rfl);have HE4:=hd (Ext.setAt (b:=s+1) (i:=1) (u:=.int .i64 0) (.inl (by simp)) (Ext.refl [s+1] w2));have HEW:=hd (HE2.o.nil.step HE4.o fun x hx=>.inr (by rw[List.mem_singleton.1 hx];omega):Ext [] w _);have HB5:=hd (HB1.o.ext HE4.o (fun hm=>by rw[List.mem_singleton] at hm;omega));generalize (w2.setCell ⟨s+1,1,none⟩ (.int .i64 0))=w4 at *;clear q1 q1l q3 q3f q3l HB1 HB3 HE2 HE4;have q3:=HB4.o.cell;have q3l:=HB4.o.lt;have q1:=HB5.o.cell;have q1l:=HB5.o.lt;by_cases h_x2:x2=0
 case neg=>
  have e_x2:(x2==0)=false:=by simpa using h_x2
  have H_x2:=hd h_x2;clear h_x2;go_wp2_with fail
  go_ret
  exact⟨ret_bool (by have:=H_x2.o;simp[this]),HEW.o⟩
 have e_x2:(x2==0)=true:=by simpa using h_x2
 have H_x2:=hd h_x2;clear h_x2;by_cases h_x3:x3=0
 case neg=>
  have e_x3:(x3==0)=false:=by simpa using h_x3
  have H_x3:=hd h_x3;clear h_x3;go_wp2_with fail
  go_ret
  exact⟨ret_bool (by have:=H_x3.o;simp[this]),HEW.o⟩
 have e_x3:(x3==0)=true:=by simpa using h_x3
 have H_x3:=hd h_x3;clear h_x3;by_cases h_x4:x4=0
 case neg=>
  have e_x4:(x4==0)=false:=by simpa using h_x4
  have H_x4:=hd h_x4;clear h_x4;go_wp2_with fail
  go_ret
  exact⟨ret_bool (by have:=H_x4.o;simp[this]),HEW.o⟩
 have e_x4:(x4==0)=true:=by simpa using h_x4
 have H_x4:=hd h_x4;clear h_x4;by_cases h_x5:x5=0
 case neg=>
  have e_x5:(x5==0)=false:=by simpa using h_x5
  have H_x5:=hd h_x5;clear h_x5;go_wp2_with fail
  go_ret
  exact⟨ret_bool (by have:=H_x5.o;simp[this]),HEW.o⟩
 have e_x5:(x5==0)=true:=by simpa using h_x5
 have H_x5:=hd h_x5;clear h_x5;by_cases h_x6:x6=0
 case neg=>
  have e_x6:(x6==0)=false:=by simpa using h_x6
  have H_x6:=hd h_x6;clear h_x6;go_wp2_with fail
  go_ret
  exact⟨ret_bool (by have:=H_x6.o;simp[this]),HEW.o⟩
 have e_x6:(x6==0)=true:=by simpa using h_x6
 have H_x6:=hd h_x6;clear h_x6;go_wp2_with fail
 refine(zeroAffineR_any _ _ _ _ _).mono ?_
 rintro e w5 ⟨rfl,hE⟩;have HE5:=hd (HEW.o.trans hE);have q5:=(HB5.o.ext hE (by simp)).cell;have q5l:=(HB5.o.ext hE (by simp)).lt;clear hE;have e9:((n:Int)==operN x1)=decide ((n:Int)=operN x1):=by rw[Bool.eq_iff_iff];simp
 cases hz:(decide (y0=0)&&decide (l=0))
 ·have HZ:=hd hz;clear hz;go_wp2_with fail
  go_ret
  exact⟨ret_bool (by have hz:=HZ.o;simp at hz⊢;try simp_all),HE5.o⟩
 ·have HZ:=hd hz;clear hz;go_wp2_with fail
  go_ret
  exact⟨ret_bool (by have hz:=HZ.o;simp[H_x2.o,H_x3.o,H_x4.o,H_x5.o,H_x6.o] at hz⊢;try simp_all),HE5.o⟩
theorem exprForm_any (h:EH)(n:Nat)(w:World)(hk:0<=kidsN h.k h.op):Calls Tryz.prog 170 #[exHV h n] w fun e w'=>e=.returned (.bool (formX h n))/\Ext [] w w':=by
 have HK:=kidsN_kind hk;obtain⟨x0,x1,x2,x3,x4,x5,x6,⟨y0,y1,y2,y3⟩,x8,x9⟩:=h;simp only at HK hk;simp only[exHV];rcases HK with h|h|h|h|h<;>subst h
 ·refine(exprForm_1 x1 x2 x3 x4 x5 x6 y0 y1 y3.length y2 x8 n x9 w).mono ?_
  rintro e w' ⟨rfl,hE⟩;exact⟨ret_bool (by simp[formX,plainX,kidsN,zeroA]),hE⟩
 ·refine(exprForm_2 x1 x2 x3 x4 x5 x6 y0 y1 y3.length y2 x8 n x9 w).mono ?_
  rintro e w' ⟨rfl,hE⟩;exact⟨ret_bool (by simp[formX,plainX,kidsN,zeroA]),hE⟩
 ·refine(exprForm_3 x1 x2 x3 x4 x5 x6 y0 y1 y3.length y2 x8 n x9 w).mono ?_
  rintro e w' ⟨rfl,hE⟩;exact⟨ret_bool (by simp[formX,plainX,kidsN,zeroA]),hE⟩
 ·refine(exprForm_4 x1 x2 x3 x4 x5 x6 y0 y1 y3.length y2 x8 n x9 w).mono ?_
  rintro e w' ⟨rfl,hE⟩;exact⟨ret_bool (by simp[formX,plainX,kidsN,zeroA]),hE⟩
 ·have h1:opN x1=operN x1/\kidsN 5 x1=opN x1:=by
   have e5:kidsN 5 x1=opN x1:=by simp[kidsN]
   rw[e5] at hk;refine⟨?_,e5⟩
   unfold opN operN at *;by_cases a:x1=15
   ·rw[if_pos a,if_pos a]
   ·rw[if_neg a] at hk⊢;rw[if_neg a];by_cases b:btw x1 4 10=true
    ·rw[if_pos b];have:=btw_iff.1 b;rw[if_neg (by omega)]
    ·rw[if_neg b] at hk⊢;by_cases c:btw x1 11 14=true
     ·rw[if_pos c];have:=btw_iff.1 c;rw[if_pos (by omega)]
     ·rw[if_neg c] at hk;omega
  by_cases a12:x1=12
  ·subst a12;refine(exprForm_512 x2 x3 x4 x5 x6 y0 y1 y3.length y2 x8 n x9 w).mono ?_
   rintro e w' ⟨rfl,hE⟩;exact⟨ret_bool (by simp[formX,plainX,h1,operN,zeroA]),hE⟩
  ·by_cases a13:x1=13
   ·subst a13;refine(exprForm_513 x2 x3 x4 x5 x6 y0 y1 y3.length y2 x8 n x9 w).mono ?_
    rintro e w' ⟨rfl,hE⟩;exact⟨ret_bool (by simp[formX,plainX,h1,operN,zeroA]),hE⟩
   ·by_cases a14:x1=14
    ·subst a14;refine(exprForm_514 x2 x3 x4 x5 x6 y0 y1 y3.length y2 x8 n x9 w).mono ?_
     rintro e w' ⟨rfl,hE⟩;exact⟨ret_bool (by simp[formX,plainX,h1,operN,zeroA]),hE⟩
    ·refine(exprForm_5 x1 x2 x3 x4 x5 x6 y0 y1 y3.length y2 x8 n x9 w (by simpa using a12) (by simpa using a13) (by simpa using a14)).mono ?_
     rintro e w' ⟨rfl,hE⟩;exact⟨ret_bool (by simp[formX,plainX,h1,a12,a13,a14,zeroA]),hE⟩
def okKind (h:EH):Prop:=h.k=1\/h.k=2\/h.k=3\/h.k=4\/h.k=5
set_option maxHeartbeats 8000000 in
set_option maxRecDepth 100000 in
theorem exprRangeR_any (h:EH)(n:Nat)(w:World)(hk:okKind h):Calls Tryz.prog 175 #[exHV h n] w fun e w'=>e=.returned (.bool (rangeX h))/\Ext [] w w':=by
 have HK:=hk;unfold okKind at HK;obtain⟨x0,x1,x2,x3,x4,x5,x6,⟨y0,y1,y2,y3⟩,x8,x9⟩:=h;simp only at HK;simp only[exHV];clear hk;have HE0:=hd ((Ext.refl [] w).alloc (.cells #[.int .i64 x0,.int .i64 x1,.int .i64 x2,.int .i64 x3,.int .i64 x4,.int .i64 x5,.int .i64 x6,.int .i64 y0,.slice y1 y3.length y2,.slice x8 n x9] 41));have HB0:=hd (Blk.new w 41 #[.int .i64 x0,.int .i64 x1,.int .i64 x2,.int .i64 x3,.int .i64 x4,.int .i64 x5,.int .i64 x6,.int .i64 y0,.slice y1 y3.length y2,.slice x8 n x9]);generalize hR:rangeX ⟨x0,x1,x2,x3,x4,x5,x6,⟨y0,y1,y2,y3⟩,x8,x9⟩=R;have HR:Hd (R=if x0=1 then isWd x4 else if x0=4 then isWd x2&&btw x4 1 100000&&btw x5 1 262144 else if x0=5 then(if x1=12 then isWd x2&&isWd x3&&decide (x2<=x3) else if x1=13 then btw x4 1 31 else if x1=14 then btw x4 1 2147483647 else true) else true):=hd (hR.symm.trans rfl);clear hR;rcases HK with h|h|h|h|h<;>subst h
 ·have HV:Hd (R=isWd x4):=hd HR.o;clear HR;go_enter Tryz.func175,Tryz.ntmps175
  go_wp2_with fail
  generalize World.alloc w _=w1 at *;generalize w.heap.size=s at *;have q:=HB0.o.cell;have ql:=HB0.o.lt;refine(wordR_any _ _).mono ?_
  rintro e w' ⟨rfl,rfl⟩;go_wp2_with fail
  go_ret
  exact⟨ret_bool HV.o.symm,HE0.o⟩
 ·have HV:Hd (R=true):=hd HR.o;clear HR;go_enter Tryz.func175,Tryz.ntmps175
  go_wp2_with fail
  go_ret
  exact⟨ret_bool HV.o.symm,HE0.o⟩
 ·have HV:Hd (R=true):=hd HR.o;clear HR;go_enter Tryz.func175,Tryz.ntmps175
  go_wp2_with fail
  go_ret
  exact⟨ret_bool HV.o.symm,HE0.o⟩
 ·have HV:Hd (R=(isWd x2&&btw x4 1 100000&&btw x5 1 262144)):=hd HR.o;clear HR;go_enter Tryz.func175,Tryz.ntmps175
  go_wp2_with fail
  generalize World.alloc w _=w1 at *;generalize w.heap.size=s at *;have q:=HB0.o.cell;have ql:=HB0.o.lt;refine(wordR_any _ _).mono ?_
  rintro e w' ⟨rfl,rfl⟩;cases h1:isWd x2
  ·have H1:=hd h1;clear h1;go_wp2_with fail
   go_ret
   exact⟨ret_bool (by rw[HV.o,H1.o];rfl),HE0.o⟩
  ·have H1:=hd h1;clear h1;go_wp2_with fail
   refine(within_any _ _ _ _).mono ?_
   rintro e w' ⟨rfl,rfl⟩;cases h2:btw x4 1 100000
   ·have H2:=hd h2;clear h2;go_wp2_with fail
    go_ret
    exact⟨ret_bool (by rw[HV.o,H1.o,H2.o];rfl),HE0.o⟩
   ·have H2:=hd h2;clear h2;go_wp2_with fail
    refine(within_any _ _ _ _).mono ?_
    rintro e w' ⟨rfl,rfl⟩;go_wp2_with fail
    go_ret
    exact⟨ret_bool (by rw[HV.o,H1.o,H2.o];rfl),HE0.o⟩
 ·have HR5:Hd (R=if x1=12 then isWd x2&&isWd x3&&decide (x2<=x3) else if x1=13 then btw x4 1 31 else if x1=14 then btw x4 1 2147483647 else true):=hd HR.o;clear HR;by_cases a12:x1=12
  ·have HR:=hd (HR5.o.trans (if_pos a12));subst a12;have HV:Hd (R=(isWd x2&&isWd x3&&decide (x2<=x3))):=hd HR.o;clear HR;go_enter Tryz.func175,Tryz.ntmps175
   go_wp2_with fail
   generalize World.alloc w _=w1 at *;generalize w.heap.size=s at *;have q:=HB0.o.cell;have ql:=HB0.o.lt;refine(wordR_any _ _).mono ?_
   rintro e w' ⟨rfl,rfl⟩;cases h1:isWd x2
   ·have H1:=hd h1;clear h1;go_wp2_with fail
    go_ret
    exact⟨ret_bool (by rw[HV.o,H1.o];rfl),HE0.o⟩
   ·have H1:=hd h1;clear h1;go_wp2_with fail
    refine(wordR_any _ _).mono ?_
    rintro e w' ⟨rfl,rfl⟩;cases h2:isWd x3
    ·have H2:=hd h2;clear h2;go_wp2_with fail
     go_ret
     exact⟨ret_bool (by rw[HV.o,H1.o,H2.o];rfl),HE0.o⟩
    ·have H2:=hd h2;clear h2;go_wp2_with fail
     go_ret
     exact⟨ret_bool (by rw[HV.o,H1.o,H2.o];rfl),HE0.o⟩
  ·have e12:(x1==12)=false:=by simpa using a12
   have HR6:=hd (HR5.o.trans (if_neg a12));clear a12;by_cases a13:x1=13
   ·have HR:=hd (HR6.o.trans (if_pos a13));subst a13;have HV:Hd (R=btw x4 1 31):=hd HR.o;clear HR;go_enter Tryz.func175,Tryz.ntmps175
    go_wp2_with fail
    generalize World.alloc w _=w1 at *;generalize w.heap.size=s at *;have q:=HB0.o.cell;have ql:=HB0.o.lt;refine(within_any _ _ _ _).mono ?_
    rintro e w' ⟨rfl,rfl⟩;go_wp2_with fail
    go_ret
    exact⟨ret_bool HV.o.symm,HE0.o⟩
   ·have e13:(x1==13)=false:=by simpa using a13
    have HR7:=hd (HR6.o.trans (if_neg a13));clear a13;by_cases a14:x1=14
    ·have HR:=hd (HR7.o.trans (if_pos a14));subst a14;have HV:Hd (R=btw x4 1 2147483647):=hd HR.o;clear HR;go_enter Tryz.func175,Tryz.ntmps175
     go_wp2_with fail
     generalize World.alloc w _=w1 at *;generalize w.heap.size=s at *;have q:=HB0.o.cell;have ql:=HB0.o.lt;refine(within_any _ _ _ _).mono ?_
     rintro e w' ⟨rfl,rfl⟩;go_wp2_with fail
     go_ret
     exact⟨ret_bool HV.o.symm,HE0.o⟩
    ·have e14:(x1==14)=false:=by simpa using a14
     have HR:=hd (HR7.o.trans (if_neg a14));clear a14;have HV:Hd (R=true):=hd HR.o;clear HR;go_enter Tryz.func175,Tryz.ntmps175
     go_wp2_with fail
     go_ret
     exact⟨ret_bool HV.o.symm,HE0.o⟩
end Go.Proofs.YtfppibmloloakaaGreatDoor
