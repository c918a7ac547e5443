import Derived.Test.YtfjdmoppfbddpaaGreatDoorP03
namespace Go.Proofs.YtfjdmoppfbddpaaGreatDoor
open Go.RowKit Go.Proofs.Tryz
set_option linter.all false
set_option maxRecDepth 100000 in
theorem sIndex_any (A:Option Addr)(n cap:Nat)(l:List ByteArray)(s:ByteArray)(w:World)(h:SeqIn w A 1 sC l)(hl:l.length=n) :
  Calls Tryz.prog 193 #[.slice A n cap,.string s] w (IdxP (hasS l s) w):=by
 have hn9:n<=1000000:=by have:=h.1;omega
 have HP:=hd h;have HL:=hd hl;clear h hl;go_enter Tryz.func193,Tryz.ntmps193
 go_wp2_with fail
 go_loopw [8] (fun i wr=>∃k:Nat,i=.int .i64 k/\k<=n/\Hd (Ext [] w wr)/\Hd (∀(j:Nat) (x:ByteArray),j<k->l[j]? = some x->eqS s x=false)) (fun i _=>(n-intOf i).toNat)
 case atStart=>exact⟨0,rfl,Nat.zero_le _,hd (Ext.refl _ _),hd fun j x hj=>absurd hj (by omega)⟩
 case round=>
  obtain⟨k,rfl,hk,HE,HN⟩:=hrel;rename World=>wq
  by_cases hlt:k<n
  ·obtain⟨b,x,rfl,hx,hc⟩:=(HP.o.keep HE.o).at (i:=k) (by have:=HL.o;omega);have g0:=hc 0 _ rfl;rw[Nat.add_zero,Nat.mul_one] at g0;have HX:=hd hx;clear hx hc;cases hp:eqS s x
   ·have HQ:=hd hp;have hp':(s.toList==x.toList)=false:=hp;clear hp;go_wp2_with fail
    go_roundw
    case rel=>
     refine⟨k+1,by go_num,by omega,HE,hd fun j x hj hx=>?_⟩
     rcases Nat.lt_or_ge j k with h1|h1
     ·exact HN.o j x h1 hx
     ·have:j=k:=by omega
      subst this;have:=HX.o.symm.trans hx;cases this
      exact HQ.o
    case measure=>simp[intOf];omega
   ·have HQ:=hd hp;have hp':(s.toList==x.toList)=true:=hp;clear hp;go_wp2_with fail
    go_ret
    exact⟨_,rfl,by rw[hasS_at HX.o HQ.o];simp,HE.o⟩
  ·go_wp2_with fail
   go_ret
   exact⟨_,rfl,by rw[hasS_upto HL.o (fun j x hj hx=>HN.o j x (by omega) hx)];rfl,HE.o⟩
theorem sHas_any (A:Option Addr)(n cap:Nat)(l:List ByteArray)(s:ByteArray)(w:World)(h:SeqIn w A 1 sC l)(hl:l.length=n) :
  Calls Tryz.prog 138 #[.slice A n cap,.string s] w (HasP (hasS l s) w):=by
 have HI:=hd (sIndex_any A n cap l s w h hl);clear h hl;go_enter Tryz.func138,Tryz.ntmps138
 go_wp2_with fail
 refine HI.o.mono ?_
 rintro e w' ⟨r,rfl,hr,hE⟩;have HR:=hd hr;have HE:=hd hE;clear hr hE;go_wp2_with fail
 go_ret
 exact⟨ret_bool (by rw[<-HR.o]),HE.o⟩
def ErrP (x:Int)(w:World)(e:Ending)(w':World):Prop:=e=.returned (.int .i64 x)/\Ext [] w w'
set_option maxHeartbeats 2000000 in
set_option maxRecDepth 100000 in
theorem affine_any (a:Af)(VA:Option Addr)(vn vc:Nat)(vars:List ByteArray)(w:World)(ha:AfIn w a)(hv:SeqIn w VA 1 sC vars)(hvn:vars.length=vn) :
  Calls Tryz.prog 244 #[afV a,.slice VA vn vc] w (ErrP (affE vars a) w):=by
 obtain⟨base,tA,tc,ts⟩:=a;generalize ht:ts.length=n;have hn9:n<=1000000:=by have:=ha.1;simp only at this;omega
 have HA:Hd (SeqIn w tA 2 tmC ts):=hd ha;have HV:=hd hv;have HT:=hd ht;have HVN:=hd hvn;clear ha hv hvn;unfold afV;simp only[ht];clear ht;by_cases h0:10<n
 ·have HR:=hd (affE_large (vars:=vars) (a:=⟨base,tA,tc,ts⟩) (by rw[HT.o];exact h0));go_enter Tryz.func244,Tryz.ntmps244
  go_wp2_with fail
  go_ret
  exact⟨ret_int HR.o.symm,by first|exact Ext.refl _ _|exact(Ext.refl _ _).alloc _⟩
 ·have H0:Hd (¬10<(⟨base,tA,tc,ts⟩:Af).ts.length):=hd (by rw[HT.o];exact h0);cases hb:bdd base
  ·have HR:=hd (affE_base (vars:=vars) H0.o hb);have HB:=hd hb;clear hb;go_enter Tryz.func244,Tryz.ntmps244
   go_wp2_with fail
   refine(bounded_any _ _).mono ?_
   rintro e w' ⟨rfl,rfl⟩;rw[HB.o];go_wp2_with fail
   go_ret
   exact⟨ret_int HR.o.symm,by first|exact Ext.refl _ _|exact(Ext.refl _ _).alloc _⟩
  ·have HB:=hd hb;clear hb;go_enter Tryz.func244,Tryz.ntmps244
   go_wp2_with fail
   refine(bounded_any _ _).mono ?_
   rintro e w' ⟨rfl,rfl⟩;rw[HB.o];go_wp2_with fail
   have HE0:=hd ((Ext.refl [] w).alloc (.cells #[.int .i64 base,.slice tA n tc] 38));have HB0:=hd (Blk.new w 38 #[.int .i64 base,.slice tA n tc]);generalize World.alloc w _=w0 at *;generalize w.heap.size=s at *;go_loopw [22] (fun i wr=>∃k:Nat,i=.int .i64 k/\k<=n/\Hd (Ext [] w0 wr)/\Hd (∀(j:Nat) (x:ByteArray×Int),j<k->ts[j]? = some x->badT x=false)) (fun i _=>(n-intOf i).toNat)
   case atStart=>exact⟨0,rfl,Nat.zero_le _,hd (Ext.refl _ _),hd fun j x hj=>absurd hj (by omega)⟩
   case round=>
    obtain⟨k,rfl,hk,HE,HN⟩:=hrel;rename World=>wq
    by_cases hlt:k<n
    ·obtain⟨b,⟨x0,x1⟩,rfl,hx,hc⟩:=((HA.o.keep HE0.o).keep HE.o).at (i:=k) (by have:=HT.o;omega);have g0:=hc 0 _ rfl;have g1:=hc 1 _ rfl;rw[Nat.add_zero] at g0;have HX:=hd hx;clear hx hc;have HEx:=hd (HE.o.alloc (.cells #[.string x0,.int .i64 x1] 185));go_wp2_with fail
     refine(bounded_any _ _).mono ?_
     rintro e w' ⟨rfl,rfl⟩;cases hp:badT (x0,x1)
     ·have hb1:bdd x1=true:=by
       simp[badT] at hp;exact hp.1
      have hb2:(x1==0)=false:=by
       simp[badT] at hp;simpa using hp.2
      have HQ:=hd hp;rw[hb1];clear hp hb1;go_wp2_with fail
      go_roundw
      case rel=>
       refine⟨k+1,by go_num,by omega,HEx,hd fun j x hj hx=>?_⟩
       rcases Nat.lt_or_ge j k with h1|h1
       ·exact HN.o j x h1 hx
       ·have:j=k:=by omega
        subst this;have:=HX.o.symm.trans hx;cases this
        exact HQ.o
      case measure=>simp[intOf];omega
     ·have HR:Hd (affE vars ⟨base,some ⟨b,0,none⟩,tc,ts⟩=9):=hd (affE_num (vars:=vars) H0.o HB.o (any_at HX.o hp))
      have hq:bdd x1=false\/bdd x1=true/\x1=0:=by
       cases hb:bdd x1
       ·exact .inl rfl
       ·simp[badT,hb] at hp;exact .inr ⟨rfl,hp⟩
      clear hp;rcases hq with hq|⟨hq,rfl⟩
      all_goals
       rw[hq];clear hq;go_wp2_with fail
       go_ret
       exact⟨ret_int HR.o.symm,HE0.o.trans HEx.o⟩
    ·have H2:=hd (any_upto HT.o (fun j x hj hx=>HN.o j x (by omega) hx));have HE1:=HE;have qb:=(HB0.o.ext HE.o (by simp)).cell;have ql:=(HB0.o.ext HE.o (by simp)).lt;clear HN;go_wp2_with fail
     clear qb ql;go_loopw [39] (fun i wr=>∃k:Nat,i=.int .i64 k/\k<=n/\Hd (Ext [] w0 wr)/\Hd (∀(j:Nat) (x y:ByteArray×Int),j+1<k->ts[j]? = some x->ts[j+1]? = some y->ltS x.1 y.1=true)) (fun i _=>(n-intOf i).toNat)
     case atStart=>exact⟨0,rfl,Nat.zero_le _,HE1,hd fun j x y hj=>absurd hj (by omega)⟩
     case round=>
      obtain⟨k,rfl,hk,HE,HN⟩:=hrel;clear HE1;rename World=>wz
      by_cases hlt:k<n
      ·obtain⟨b,⟨x0,x1⟩,rfl,hx,hc⟩:=((HA.o.keep HE0.o).keep HE.o).at (i:=k) (by have:=HT.o;omega);have g0:=hc 0 _ rfl;have g1:=hc 1 _ rfl;rw[Nat.add_zero] at g0;have HX:=hd hx;have qb:=(HB0.o.ext HE.o (by simp)).cell;have ql:=(HB0.o.ext HE.o (by simp)).lt;have HEx:=hd (HE.o.alloc (.cells #[.string x0,.int .i64 x1] 185));cases k with
       | zero=>
        clear hx hc;go_wp2_with fail
        go_quiet (fail)
        go_wp2_with fail
        go_roundw
        case rel=>exact⟨1,by go_num,by omega,hd (HEx.o.drewN _),hd fun j x y hj=>absurd hj (by omega)⟩
        case measure=>simp[intOf];omega
       | succ q=>
        obtain⟨b',⟨y0,y1⟩,hb',hy,hc'⟩:=((HA.o.keep HE0.o).keep HE.o).at (i:=q) (by have:=HT.o;omega);cases hb'
        have e0:=hc' 0 _ rfl;rw[Nat.add_zero] at e0;have HY:=hd hy;have hbl:=World.block_lt_of_cell? wz _ g0;simp only at hbl;have hq1:(q:Int)<(n:Int):=by omega
        have hwq:IntKind.i64.wrap (q:Int)=q:=by rw[IntKind.wrap_i64];omega
        clear hx hc hy hc';go_wp2_with fail
        cases hp:ltS y0 x0
        ·have hp':Op.bytesLess y0.toList x0.toList=false:=hp;have HR:Hd (affE vars ⟨base,some ⟨b,0,none⟩,tc,ts⟩=7):=hd (affE_order H0.o HB.o H2.o (unord_at HY.o HX.o hp));clear hp;go_quiet (fail)
         go_wp2_with fail
         go_ret
         exact⟨ret_int HR.o.symm,HE0.o.trans (HEx.o.drewN _)⟩
        ·have hp':Op.bytesLess y0.toList x0.toList=true:=hp;have HQ:=hd hp;clear hp;go_quiet (fail)
         go_wp2_with fail
         go_roundw
         case rel=>
          refine⟨q+1+1,by go_num,by omega,hd (HEx.o.drewN _),hd fun j x y hj hx hy=>?_⟩
          rcases Nat.lt_or_ge j q with h1|h1
          ·exact HN.o j x y (by omega) hx hy
          ·have:j=q:=by omega
           subst this;have h3:=HY.o.symm.trans hx;have h4:=HX.o.symm.trans hy;cases h3;cases h4
           exact HQ.o
         case measure=>simp[intOf];omega
      ·have H3:Hd (unord ts=false):=hd (unord_upto fun j x y hx hy=>HN.o j x y (by have:=(List.getElem?_eq_some_iff.1 hy).1;have:=HT.o;omega) hx hy);have HE1:=HE;have qb:=(HB0.o.ext HE.o (by simp)).cell;have ql:=(HB0.o.ext HE.o (by simp)).lt;clear HN;go_wp2_with fail
       clear qb ql;go_loopw [62] (fun i wr=>∃k:Nat,i=.int .i64 k/\k<=n/\Hd (Ext [] w0 wr)/\Hd (∀(j:Nat) (x:ByteArray×Int),j<k->ts[j]? = some x->strayT vars x=false)) (fun i _=>(n-intOf i).toNat)
       case atStart=>exact⟨0,rfl,Nat.zero_le _,HE1,hd fun j x hj=>absurd hj (by omega)⟩
       case round=>
        obtain⟨k,rfl,hk,HE,HN⟩:=hrel;clear HE1;rename World=>wv
        by_cases hlt:k<n
        ·obtain⟨b,⟨x0,x1⟩,rfl,hx,hc⟩:=((HA.o.keep HE0.o).keep HE.o).at (i:=k) (by have:=HT.o;omega);have g0:=hc 0 _ rfl;have g1:=hc 1 _ rfl;rw[Nat.add_zero] at g0;have HX:=hd hx;clear hx hc;have HEx:=hd (HE.o.alloc (.cells #[.string x0,.int .i64 x1] 185));go_wp2_with fail
         refine(sHas_any VA vn vc vars x0 _ ((HV.o.keep HE0.o).keep HEx.o) HVN.o).mono ?_
         rintro e w' ⟨rfl,hE⟩;have HEy:=hd (HEx.o.trans hE);clear hE;cases hp:hasS vars x0
         ·have HR:Hd (affE vars ⟨base,some ⟨b,0,none⟩,tc,ts⟩=5):=hd (affE_name H0.o HB.o H2.o H3.o (any_at HX.o (by simp[strayT,hp])));clear hp;go_wp2_with fail
          go_ret
          exact⟨ret_int HR.o.symm,HE0.o.trans HEy.o⟩
         ·have HQ:=hd hp;clear hp;go_wp2_with fail
          go_roundw
          case rel=>
           refine⟨k+1,by go_num,by omega,HEy,hd fun j x hj hx=>?_⟩
           rcases Nat.lt_or_ge j k with h1|h1
           ·exact HN.o j x h1 hx
           ·have:j=k:=by omega
            subst this;have:=HX.o.symm.trans hx;cases this
            simp[strayT,HQ.o]
          case measure=>simp[intOf];omega
        ·have HR:Hd (affE vars ⟨base,tA,tc,ts⟩=0):=hd (affE_ok H0.o HB.o H2.o H3.o (any_upto HT.o fun j x hj hx=>HN.o j x (by omega) hx));go_wp2_with fail
         go_ret
         exact⟨ret_int HR.o.symm,HE0.o.trans HE.o⟩
theorem keep0 {w0 w w':World}{S:List Nat}(h0:Ext [] w0 w)(h:Ext S w w')(hS:∀x∈S,w0.heap.size<=x):Ext [] w0 w':=h0.step h fun x hx=>.inr (hS x hx)
def MeasP (many level:Nat)(e:Ex)(mb:Nat)(w:World)(r:Ending)(w':World):Prop:=
 ∃m:Int,r=.returned (.bool (fits many level e))/\Ext [mb] w w'/\Blk w' mb 3 #[.int .i64 m]/\(fits many level e=true->m=(many+parts e:Nat))
theorem fits_iff {many level:Nat}{e:Ex}:fits many level e=true ↔ many+parts e<=32/\level+deep e<=7:=by simp[fits]
theorem fits_not {many level:Nat}{e:Ex}:fits many level e=false ↔ ¬(many+parts e<=32/\level+deep e<=7):=by rw[<-Bool.not_eq_true,fits_iff]
theorem fits_many {many level:Nat}{h:EH}{ks:List Ex}(hm:32<many+1):fits many level (.mk h ks)=false:=by
 rw[fits_not];simp only[parts];omega
theorem fits_level {many level:Nat}{h:EH}{ks:List Ex}(hm:6<level):fits many level (.mk h ks)=false:=by
 rw[fits_not];simp only[deep];omega
theorem fits_kid {many level j:Nat}{h:EH}{ks:List Ex}{e:Ex}(hj:ks[j]? = some e)(hf:fits (many+1+partsL (ks.take j)) (level+1) e=false):fits many level (.mk h ks)=false:=by
 have h1:=parts_le hj;have h2:=deepL_le hj;rw[fits_not] at hf⊢;simp only[parts,deep];omega
theorem fits_all {many level:Nat}{h:EH}{ks:List Ex}(h0:many+1<=32)(h1:level<=6)(hf:∀(j:Nat) (e:Ex),ks[j]? = some e->fits (many+1+partsL (ks.take j)) (level+1) e=true):fits many level (.mk h ks)=true:=by
 have key:∀n,n<=ks.length->many+1+partsL (ks.take n)<=32/\level+1+deepL (ks.take n)<=7:=by
  intro n
  induction n with
  | zero=>intro _;simp[partsL,deepL];omega
  | succ n ih=>
   intro hn;have hx:=List.getElem?_eq_getElem (l:=ks) (i:=n) (by omega);have:=ih (by omega);have hq:=hf n _ hx;rw[partsL_take hx,deepL_take hx];rw[fits_iff] at hq;omega
 have:=key ks.length (Nat.le_refl _);rw[List.take_length] at this;rw[fits_iff];simp only[parts,deep];omega
set_option maxHeartbeats 2000000 in
set_option maxRecDepth 100000 in
theorem measure_any:∀(e:Ex) (many level:Nat) (w0 w:World) (mb:Nat),ExIn w0 e->Ext [] w0 w->w0.heap.size<=mb->many<=32->level<=7->Blk w mb 3 #[.int .i64 many]->
  Calls Tryz.prog 245 #[exV e,.int .i64 level,.pointer (some ⟨mb,0,none⟩)] w (MeasP many level e mb w):=by
 intro e
 refine ex_ind (P:=fun e=>∀(many level:Nat) (w0 w:World) (mb:Nat),ExIn w0 e->Ext [] w0 w->w0.heap.size<=mb->many<=32->level<=7->Blk w mb 3 #[.int .i64 many]->
  Calls Tryz.prog 245 #[exV e,.int .i64 level,.pointer (some ⟨mb,0,none⟩)] w (MeasP many level e mb w)) ?_ e
 intro h ks ih many level w0 w mb hX hE0 hmb hm32 hl7 hB;have HI:=hd ih;have HX:=hd hX;have HR:=hd hX.row;have HE0:=hd hE0;have HB:=hd hB;have hn9:ks.length<=1000000:=hX.row.1;have hf:=hB.frozen 0;have hc:=hB.cell 0;have hbl:=hB.lt;clear ih hX hE0 hB;show Calls _ _ #[exHV h ks.length,_,_] _ _
 generalize hn:ks.length=n at *;have HN:=hd hn;clear hn;obtain⟨x0,x1,x2,x3,x4,x5,x6,⟨y0,y1,y2,y3⟩,x8,x9⟩:=h;dsimp only[exHV] at *;by_cases hm:32<many+1
 ·have HF:=hd (fits_many (level:=level) (h:=⟨x0,x1,x2,x3,x4,x5,x6,⟨y0,y1,y2,y3⟩,x8,x9⟩) (ks:=ks) hm);have hm2:many=32:=by omega
  subst hm2;go_enter Tryz.func245,Tryz.ntmps245
  go_wp2_with fail
  go_ret
  exact⟨33,ret_bool HF.o.symm,(Ext.setAt (.inl (by simp)) (Ext.refl [mb] w)).alloc _,(HB.o.set_' 0 _ _ rfl).alloc _,fun h=>by rw[HF.o] at h;cases h⟩
 ·by_cases hl:6<level
  ·have HF:=hd (fits_level (many:=many) (h:=⟨x0,x1,x2,x3,x4,x5,x6,⟨y0,y1,y2,y3⟩,x8,x9⟩) (ks:=ks) hl);go_enter Tryz.func245,Tryz.ntmps245
   go_wp2_with fail
   go_ret
   exact⟨many+1,ret_bool HF.o.symm,(Ext.setAt (.inl (by simp)) (Ext.refl [mb] w)).alloc _,(HB.o.set_' 0 _ _ rfl).alloc _,fun h=>by rw[HF.o] at h;cases h⟩
  ·have HL:Hd (many+1<=32/\level<=6):=hd (by omega);go_enter Tryz.func245,Tryz.ntmps245
   go_wp2_with fail
   have HE1:=hd ((Ext.setAt (b:=mb) (i:=0) (u:=.int .i64 (many+1)) (.inl (by simp)) (Ext.refl [mb] w)).alloc (.cells #[.int .i64 x0,.int .i64 x1,.int .i64 x2,.int .i64 x3,.int .i64 x4,.int .i64 x5,.int .i64 x6,.int .i64 y0,.slice y1 y3.length y2,.slice x8 n x9] 41));have HB1:=hd ((HB.o.set_' 0 (.int .i64 (many+1)) _ rfl).alloc (.cells #[.int .i64 x0,.int .i64 x1,.int .i64 x2,.int .i64 x3,.int .i64 x4,.int .i64 x5,.int .i64 x6,.int .i64 y0,.slice y1 y3.length y2,.slice x8 n x9] 41));clear hc hf HB;generalize World.alloc _ _=w1 at *;go_loopw [25] (fun i wr=>∃k:Nat,i=.int .i64 k/\k<=n/\Hd (Ext [mb] w wr)/\Hd (Blk wr mb 3 #[.int .i64 (many+1+partsL (ks.take k):Nat)]/\many+1+partsL (ks.take k)<=32)/\Hd (∀(j:Nat) (e:Ex),j<k->ks[j]? = some e->fits (many+1+partsL (ks.take j)) (level+1) e=true)) (fun i _=>(n-intOf i).toNat)
   case atStart=>exact⟨0,rfl,Nat.zero_le _,HE1,hd ⟨by simpa[partsL] using HB1.o,by simpa[partsL] using HL.o.1⟩,hd fun j x hj=>absurd hj (by omega)⟩
   case round=>
    obtain⟨k,rfl,hk,HE,HBk,HN2⟩:=hrel;clear HE1 HB1;rename World=>wq
    by_cases hlt:k<n
    ·have HE2:=hd (keep0 HE0.o HE.o (by simp;omega));obtain⟨b,x,rfl,hx,hc⟩:=(HR.o.keep HE2.o).at (i:=k) (by have:=HN.o;omega);have HXK:=hd hx;have hmem:=List.mem_of_getElem? hx;have HXE:=hd ((HX.o.kid hmem));have HEx:=hd (HE.o.alloc (.cells (exArr x) 41));have HC:=hd (HI.o x hmem (many+1+partsL (ks.take k)) (level+1) w0 (wq.alloc (.cells (exArr x) 41)) mb HXE.o (HE2.o.alloc _) hmb HBk.o.2 (by omega) (HBk.o.1.alloc _));have HW:=hd (fun j v hv=>hc j v (by rw[exC_arr];exact hv):∀(j:Nat) (v:Value),(exArr x).toList[j]? = some v->wq.cell? ⟨b,k*10+j,none⟩=some v);have HW2:=hd (Blk.new wq 41 (exArr x)).wide;rw[exV_arr] at HC;clear hx hc
     go_wp2_with (first
      | refine wpList_load_wide rfl 41 _ rfl b (k*10) rfl (exArr x) HW.o _ Tryz.underlying41 rfl infoEx ?_
      | refine wpList_make_wide rfl rfl 41 _ _ rfl rfl zEx (zEx_run _) (exArr x) rfl rfl infoEx rfl (exArr_one x) ?_
      | refine wpList_load_wide rfl 41 _ rfl wq.heap.size 0 rfl (exArr x) HW2.o _ Tryz.underlying41 rfl infoEx ?_)
     refine HC.o.mono ?_
     rintro r w' ⟨m,rfl,hE,hB',hm'⟩;have HE3:=hd (HEx.o.trans hE);have HB3:=hd hB';have HM:=hd hm';clear hE hB' hm' HC;cases hf:fits (many+1+partsL (ks.take k)) (level+1) x
     ·have HF:=hd (fits_kid (h:=⟨x0,x1,x2,x3,x4,x5,x6,⟨y0,y1,y2,y3⟩,some ⟨b,0,none⟩,x9⟩) HXK.o hf);clear hf;go_wp2_with fail
      go_ret
      exact⟨m,ret_bool HF.o.symm,HE3.o,HB3.o,fun h=>by rw[HF.o] at h;cases h⟩
     ·have HF:=hd hf;have hmm:=HM.o hf;subst hmm;have hpl:=(fits_iff.1 hf).1;have hple:many+1+partsL (ks.take (k+1))<=32:=by rw[partsL_take HXK.o];omega
      clear hf;go_wp2_with fail
      go_roundw
      case rel=>
       refine⟨k+1,by go_num,by omega,HE3,hd ⟨?_,hple⟩,hd fun j e hj he=>?_⟩
       ·rw[partsL_take HXK.o,<-Nat.add_assoc];exact HB3.o
       ·rcases Nat.lt_or_ge j k with h1|h1
        ·exact HN2.o j e h1 he
        ·have:j=k:=by omega
         subst this;have:=HXK.o.symm.trans he;cases this
         exact HF.o
      case measure=>simp[intOf];omega
    ·have hkn:k=n:=by omega
     subst hkn;have HF:=hd (fits_all (h:=⟨x0,x1,x2,x3,x4,x5,x6,⟨y0,y1,y2,y3⟩,x8,x9⟩) HL.o.1 HL.o.2 fun j e he=>HN2.o j e (by have:=(List.getElem?_eq_some_iff.1 he).1;have:=HN.o;omega) he);have HT:Hd (ks.take k=ks):=hd (List.take_of_length_le (by have:=HN.o;omega));go_wp2_with fail
     go_ret
     refine⟨_,ret_bool HF.o.symm,HE.o,HBk.o.1,fun _=>?_⟩
     rw[HT.o];simp only[parts];omega
end Go.Proofs.YtfjdmoppfbddpaaGreatDoor
