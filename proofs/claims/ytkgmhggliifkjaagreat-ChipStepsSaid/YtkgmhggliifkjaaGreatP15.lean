import Derived.Test.YtkgmhggliifkjaaGreatP13
namespace Go.Proofs.YtkgmhggliifkjaaGreat
open Go.RowKit Go.Proofs.Tryz
set_option linter.all false
set_option maxHeartbeats 8000000
set_option maxRecDepth 100000
section
def RdT (w:World)(b o n:Nat)(f:Nat->Bool):Prop:=∀k,k<n->w.cell? ⟨b,o+k,none⟩=some (.bool (f k))
theorem Sy (b o n cap:Nat)(f:Nat->Bool)(w:World)(h:RdT w b o n f)(hl:n<=1048576)(hb:b<w.heap.size) :
  Calls prog 113 #[.slice (some ⟨b,o,none⟩) n cap,.bool false] w fun e w'=>∃r:Int,e=.returned (.int .i64 r)/\(0<=r ↔ ((List.range n).map f).contains false=true)/\Ext [] w w':=by
 have HH:=hd h;clear h;go_enter func113,ntmps113
 go_wp2_with fail
 go_loopw [8] (fun i wr=>∃k:Nat,i=.int .i64 k/\k<=n/\Hd (∀j,j<k->f j=true)/\wr=w) (fun i _=>(n-intOf i).toNat)
 case atStart=>exact⟨0,rfl,Nat.zero_le _,hd fun j hj=>absurd hj (by omega),rfl⟩
 case round=>
  obtain⟨k,rfl,hk,HNO,rfl⟩:=hrel;by_cases hlt:k<n
  ·have hc:=HH.o k hlt;cases hq:f k
   ·rw[hq] at hc;have HQ:=hd hq;clear hq;go_wp2_with fail
    go_ret
    refine⟨_,rfl,?_,er⟩
    constructor
    ·intro _;exact List.contains_iff_mem.2 (List.mem_map.2 ⟨k,List.mem_range.2 hlt,HQ.o⟩)
    ·intro _;omega
   ·rw[hq] at hc;have HQ:=hd hq;clear hq;go_wp2_with fail
    go_roundw
    case rel=>
     refine⟨k+1,by go_num,by omega,hd fun j hj=>?_,by first|rfl|trivial⟩
     rcases Nat.lt_or_ge j k with h1|h1
     ·exact HNO.o j h1
     ·have:j=k:=by omega
      subst this;exact HQ.o
    case measure=>simp[intOf];omega
  ·go_wp2_with fail
   go_ret
   refine⟨_,rfl,?_,er⟩
   constructor
   ·intro h0;omega
   ·intro hm;obtain⟨j,hj,hq⟩:=List.mem_map.1 (List.contains_iff_mem.1 hm);have:=HNO.o j (by have:=List.mem_range.1 hj;omega);rw[hq] at this;cases this
theorem Ki (b o n cap:Nat)(f:Nat->Bool)(w:World)(h:RdT w b o n f)(hl:n<=1048576)(hb:b<w.heap.size) :
  Calls prog 79 #[.slice (some ⟨b,o,none⟩) n cap,.bool false] w fun e w'=>e=.returned (.bool (((List.range n).map f).contains false))/\Ext [] w w':=by
 go_enter func79,ntmps79
 go_wp2_with fail
 refine(Sy b o n cap f w h hl hb).mono ?_
 rintro e w' ⟨r,rfl,hr,hE⟩;have HR:=hd hr;clear hr;go_wp2_with fail
 go_ret
 refine⟨?_,hE⟩
 refine Ay ?_
 by_cases h0:0<=r
 ·rw[HR.o.1 h0];simp[h0]
 ·have:((List.range n).map f).contains false=false:=by
   cases hc:((List.range n).map f).contains false
   ·rfl
   ·exact absurd (HR.o.2 hc) h0
  rw[this];simp[h0]
section
variable {m:Mc} {S:MS} {x:Ins}
theorem Sz (m:Mc)(S:MS)(x:Ins)(hl:m.lanes<=8):(Ae m S x).length<=8:=by
 unfold Ae
 repeat' split
 all_goals simp
 omega
theorem Re (m:Mc)(S:MS)(x:Ins):(Ab m S x).length<=1:=by
 unfold Ab
 repeat' split
 all_goals simp
theorem Vd (hok:m.okB=true)(hv:VI m x):∀a,a∈Ae m S x\/a∈Ab m S x->1<=a.size/\a.size<=4096:=by
 have hm:=Bc hok;intro a ha;rcases ha with ha|ha
 ·unfold Ae at ha;by_cases h5:x.op=5
  ·rw[ijp h5] at ha;rw[ms ha];simp only;omega
  rw[ijn h5] at ha;by_cases h7:x.op=7
  ·rw[ijp h7] at ha;rw[ms ha];simp only;omega
  rw[ijn h7] at ha;by_cases h9:x.op=9
  ·rw[ijp h9] at ha;rw[ms ha];simp only;omega
  rw[ijn h9] at ha;by_cases h14:x.op=14
  ·rw[ijp h14] at ha;obtain⟨i,_,rfl⟩:=List.mem_map.1 ha;simp only;omega
  rw[ijn h14] at ha;by_cases h18:x.op=18
  ·have hk:=hv.ks h18;rw[ijp h18] at ha;split at ha
   ·rw[ms ha];simp only;omega
   ·rw[ms ha];simp only;omega
  rw[ijn h18] at ha;cases ha
 ·unfold Ab at ha;by_cases h5:x.op=6
  ·rw[ijp h5] at ha;rw[ms ha];simp only;omega
  rw[ijn h5] at ha;by_cases h7:x.op=8
  ·rw[ijp h7] at ha;rw[ms ha];simp only;omega
  rw[ijn h7] at ha;by_cases h9:x.op=10
  ·rw[ijp h9] at ha;rw[ms ha];simp only;omega
  rw[ijn h9] at ha;by_cases h18:x.op=18
  ·have hk:=hv.ks h18;rw[ijp h18] at ha;split at ha
   ·rw[ms ha];simp only;omega
   ·rw[ms ha];simp only;omega
  rw[ijn h18] at ha;cases ha
theorem Aab (hv:VI m x):∀a,a∈Ae m S x->a.bank = -1\/(0<=a.bank/\a.bank<m.banks):=by
 intro a ha;unfold Ae at ha;by_cases h5:x.op=5
 ·rw[ijp h5] at ha;rw[ms ha];exact .inl rfl
 rw[ijn h5] at ha;by_cases h7:x.op=7
 ·have hc:=hv.cb (by omega);rw[ijp h7] at ha;rw[ms ha];refine .inr ?_;simp only;omega
 rw[ijn h7] at ha;by_cases h9:x.op=9
 ·have hc:=hv.cb (by omega);rw[ijp h9] at ha;rw[ms ha];refine .inr ?_;simp only;omega
 rw[ijn h9] at ha;by_cases h14:x.op=14
 ·have hc:=hv.cb (by omega);rw[ijp h14] at ha;obtain⟨i,_,rfl⟩:=List.mem_map.1 ha;refine .inr ?_;simp only;omega
 rw[ijn h14] at ha;by_cases h18:x.op=18
 ·have hc:=hv.cb (by omega);rw[ijp h18] at ha;split at ha
  ·rw[ms ha];refine .inr ?_;simp only;omega
  ·rw[ms ha];exact .inl rfl
 rw[ijn h18] at ha;cases ha
end
end
section
attribute [local irreducible] Ax
theorem Acy {w:World}{A:CA}{m:Mc}{xs:List Ins}{S:MS}(h:Ag w A m xs S)(hw:WfM m S)(xo xk xd xa xb xc xp xn xm:Int)(hv:VI m ⟨xo,xk,xd,xa,xb,xc,xp,xn,xm⟩)
  (hT:∀W,Ext [] w W->Calls prog 75 #[.pointer (some A.c),.agg #[xo,xk,xd,xa,xb,xc,xp,xn,xm]] W (Hr m S ⟨xo,xk,xd,xa,xb,xc,xp,xn,xm⟩ W)) :
  Calls prog 44 #[.pointer (some A.c),.agg #[xo,xk,xd,xa,xb,xc,xp,xn,xm]] w fun e w'=>
   e=.returned (.int .i64 (Cg m S (Ae m S ⟨xo,xk,xd,xa,xb,xc,xp,xn,xm⟩) (Ab m S ⟨xo,xk,xd,xa,xb,xc,xp,xn,xm⟩)))/\Ext [] w w':=by
 have HH:=hd h;have hm:=Bc h.kd.ok;have hsz:=Vd (S:=S) h.kd.ok hv;have hbk:=Aab (S:=S) hv;have hrl:=Sz m S ⟨xo,xk,xd,xa,xb,xc,xp,xn,xm⟩ (by omega);have hwl:=Re m S ⟨xo,xk,xd,xa,xb,xc,xp,xn,xm⟩;have HT:=hd hT;unfold Hr at HT;have HE0:=hd ((Ext.refl [] w).alloc (.cells #[xo,xk,xd,xa,xb,xc,xp,xn,xm] 76));have HW:=hd hw;clear h hv hT hw;generalize Ae m S ⟨xo,xk,xd,xa,xb,xc,xp,xn,xm⟩=rs at *;generalize Ab m S ⟨xo,xk,xd,xa,xb,xc,xp,xn,xm⟩=ws at *;go_enter func44,ntmps44
 go_wp2_with fail
 refine(HT.o _ HE0.o).mono ?_
 rintro e w1 ⟨Ra,lr,cr,Wa,lw,cw,rfl,hlr,hlw,hE1,hR,hWr,-,-⟩;have HE1:=hd (HE0.o.trans hE1);have HR:=hd hR;have HWr:=hd hWr;have HSZ:=hd hsz;have HBK:=hd hbk;have HLR:=hd hlr;have HLW:=hd hlw;have hlr8:lr<=8:=by omega
 have hlw1:lw<=1:=by omega
 clear hE1 hR hWr hsz hbk hrl hwl hlr hlw HT;have HF:Hd (∀l:List Ar,(∀a:Ar,a∈l->0<=a.size/\a.size<=4096)->∀wq,Ext [] w wq->∀a,a∈l->∀W,Ext [] wq W->Calls prog 77 #[.pointer (some A.c),.agg #[.int .i64 a.bank,.int .i64 a.lo,.int .i64 a.size]] W (fun e w'=>e=.returned (.bool (Hm m a))/\Ext [] W w')):=hd (fun l hl wq hq a ha W hW=>Xg (HH.o.nil (hq.trans hW)) a (hl a ha));go_wp2_with fail
 refine(Kg A.c (Hm m) Ra lr cr rs w1 (HF.o rs (fun a ha=>by have:=HSZ.o a (.inl ha);omega) _ HE1.o) HR.o HLR.o (by omega)).mono ?_
 rintro e w2 ⟨rfl,hE2⟩;have HE2:=hd (HE1.o.trans hE2);have HR2:=hd (HR.o.ext hE2 (by simp));have HW2:=hd (HWr.o.ext hE2 (by simp));clear hE2;cases hq1:rs.any (Hm m)
 ·have HQ1:=hd hq1;clear hq1;go_wp2_with fail
  refine(Kg A.c (Hm m) Wa lw cw ws w2 (HF.o ws (fun a ha=>by have:=HSZ.o a (.inr ha);omega) _ HE2.o) HW2.o HLW.o (by omega)).mono ?_
  rintro e w3 ⟨rfl,hE3⟩;have HE3:=hd (HE2.o.trans hE3);have HR3:=hd (HR2.o.ext hE3 (by simp));have HW3:=hd (HW2.o.ext hE3 (by simp));clear hE3;cases hq2:ws.any (Hm m)
  ·have HQ2:=hd hq2;clear hq2
   have HBD:Hd (∀a:Ar,a∈rs\/a∈ws->0<=a.lo/\a.lo+a.size<=Bn m a.bank/\a.lo<=524288/\1<=a.size/\a.size<=4096):=hd (fun a ha=>by
    have h1:=HSZ.o a ha
    have h2:Hm m a=false:=by
     rcases ha with ha|ha
     ·have:=HQ1.o;rw[List.any_eq_false] at this;simpa using this a ha
     ·have:=HQ2.o;rw[List.any_eq_false] at this;simpa using this a ha
    have h3:=Cq h2;have h4:Bn m a.bank<=524288:=by unfold Bn;split<;>omega
    omega)
   have HMT:Hd (∀(l:List Ar) (a:Ar),(∀y,y∈l->y∈rs\/y∈ws)->Su m a->∀y,y∈l->∀W,Calls prog 78 #[.agg #[.int .i64 a.bank,.int .i64 a.lo,.int .i64 a.size],.agg #[.int .i64 y.bank,.int .i64 y.lo,.int .i64 y.size]] W (fun e w'=>e=.returned (.bool (a.meets y))/\Ext [] W w')):=hd (fun l a hl hok y hy W=>by
    have h1:=HBD.o y (hl y hy);obtain⟨_,h2,h3,h4⟩:=hok;have h5:Bn m a.bank<=524288:=by unfold Bn;split<;>omega
    exact Acq a y W (by omega) (by omega))
   have hC:=HH.o.nil HE3.o;have q162:=hC.cell (i:=162) (by omega) (v:=.slice (some A.qb) m.queues.toNat m.queues.toNat) rfl;have ql:=hC.lt;clear hC;obtain⟨Q,hQ⟩:∃Q,m.queues.toNat=Q:=⟨_,rfl⟩;have hQ4:Q<=4:=by omega
   have hmq:m.queues=Q:=by omega
   have HMQ:=hd hmq;rw[hQ] at q162;have HQ:=hd hQ;clear hQ hmq
   have HB3:Hd (∀k:Nat,k<Q->∀t,S.q (k:Nat)=some t->Jl rs ws t=true->Cg m S rs ws=3):=hd (fun k hk t ht hb=>by
    unfold Cg;rw[HQ1.o,HQ2.o,ijn (by decide),if_pos];rw[HQ.o];exact List.any_eq_true.2 ⟨k,List.mem_range.2 hk,by rw[ht];exact hb⟩)
   go_wp2_with fail
   clear q162 ql;go_loopw [33] (fun i wr=>∃k:Nat,i=.int .i64 k/\k<=Q/\Hd (∀j:Nat,j<k->(match S.q (j:Nat) with|none=>false|some t=>Jl rs ws t)=false)/\Hd (Ext [] w wr)/\Hd (RdA wr Ra rs)/\Hd (RdA wr Wa ws)) (fun i _=>(Q-intOf i).toNat)
   case atStart=>exact⟨0,rfl,by omega,hd (fun j hj=>absurd hj (by omega)),HE3,HR3,HW3⟩
   case round=>
    obtain⟨k,rfl,hk,HNO,HEr,HRr,HWr'⟩:=hrel;rename World=>wk
    by_cases hlt:k<Q
    ·have hC:=HH.o.nil HEr.o;have qd:=hC.que.queue.cell (i:=k) (by rw[HQ.o];exact hlt);have qdl:=hC.que.queue.lt;unfold Od at qd;have HQT:=hd hC.que.trs;clear hC;cases hq:S.q (k:Nat) with
     | none=>
      rw[hq] at qd;have HQK:=hd hq;clear hq HQT;go_wp2_with fail
      go_roundw
      case rel=>
       refine⟨k+1,by go_num,by omega,hd (fun j hj=>?_),HEr,HRr,HWr'⟩
       rcases Nat.lt_or_ge j k with h1|h1
       ·exact HNO.o j h1
       ·have:j=k:=by omega
        subst this;rw[HQK.o]
      case measure=>simp[intOf];omega
     | some t=>
      rw[hq] at qd;have HQK:=hd hq;obtain⟨hb,-,-,-⟩:=HQT.o k (by rw[HQ.o];exact hlt) t hq;obtain⟨hq0,hq1,htr⟩:=HW.o.q _ _ hq;have HTR:=hd htr;obtain⟨⟨sb,sl,ss⟩,⟨db,dl,ds⟩,twords,trdy⟩:=t;have HB:=hd hb;have qb:=hb.cell;have qbl:=hb.lt;dsimp only[Jn] at qb;clear hb HQT hq hq0 hq1 htr;have HMR:=hd (fun(W:World) (hW:Ext [] w W) (hr:RdA W Ra rs)=>Ha db dl ds (fun y=>(Ar.mk db dl ds).meets y) Ra lr cr rs W (fun a ha W' _=>HMT.o rs ⟨db,dl,ds⟩ (fun y hy=>.inl hy) HTR.o.dst a ha W') hr HLR.o (by omega));have HMW:=hd (fun(W:World) (hW:Ext [] w W) (hr:RdA W Wa ws)=>Ha db dl ds (fun y=>(Ar.mk db dl ds).meets y) Wa lw cw ws W (fun a ha W' _=>HMT.o ws ⟨db,dl,ds⟩ (fun y hy=>.inr hy) HTR.o.dst a ha W') hr HLW.o (by omega));have HMS:=hd (fun(W:World) (hW:Ext [] w W) (hr:RdA W Wa ws)=>Ha sb sl ss (fun y=>(Ar.mk sb sl ss).meets y) Wa lw cw ws W (fun a ha W' _=>HMT.o ws ⟨sb,sl,ss⟩ (fun y hy=>.inr hy) HTR.o.src a ha W') hr HLW.o (by omega));dsimp only at qd;go_wp2_with fail
      refine(HMR.o _ HEr.o HRr.o).mono ?_
      rintro e w4 ⟨rfl,hE4⟩;have HE4:=hd hE4;have HEw4:=hd (HEr.o.trans hE4);have qb:=(HB.o.ext hE4 (by simp)).cell;have qbl:=(HB.o.ext hE4 (by simp)).lt;dsimp only[Jn] at qb;clear hE4 qd qdl;cases hp1:rs.any (fun y=>(Ar.mk db dl ds).meets y)
      ·have HP1:=hd hp1;clear hp1;go_wp2_with fail
       refine(HMW.o _ HEw4.o (HWr'.out.ext HE4.o (by simp))).mono ?_
       rintro e w5 ⟨rfl,hE5⟩;have HE5:=hd (HE4.o.trans hE5);have HEw5:=hd (HEr.o.trans HE5.o);have qb:=(HB.o.ext HE5.o (by simp)).cell;have qbl:=(HB.o.ext HE5.o (by simp)).lt;dsimp only[Jn] at qb;clear hE5;cases hp2:ws.any (fun y=>(Ar.mk db dl ds).meets y)
       ·have HP2:=hd hp2;clear hp2;go_wp2_with fail
        refine(HMS.o _ HEw5.o (HWr'.out.ext HE5.o (by simp))).mono ?_
        rintro e w6 ⟨rfl,hE6⟩;have HE6:=hd (HE5.o.trans hE6);have HEw6:=hd (HEr.o.trans HE6.o);clear hE6 qb qbl;cases hp3:ws.any (fun y=>(Ar.mk sb sl ss).meets y)
        ·have HP3:=hd hp3;clear hp3;go_wp2_with fail
         go_roundw
         case rel=>
          refine⟨k+1,by go_num,by omega,hd (fun j hj=>?_),HEw6,hd (HRr.o.ext HE6.o (by simp)),hd (HWr'.out.ext HE6.o (by simp))⟩
          rcases Nat.lt_or_ge j k with h1|h1
          ·exact HNO.o j h1
          ·have:j=k:=by omega
           subst this;rw[HQK.o];show Jl rs ws _=false
           unfold Jl;rw[HP1.o,HP2.o,HP3.o];rfl
         case measure=>simp[intOf];omega
        ·have HP3:=hd hp3;clear hp3;go_wp2_with fail
         go_ret
         exact⟨by rw[HB3.o k hlt _ HQK.o (by unfold Jl;rw[HP3.o];simp)];rfl,HEr.o.trans HE6.o⟩
       ·have HP2:=hd hp2;clear hp2;go_wp2_with fail
        go_ret
        exact⟨by rw[HB3.o k hlt _ HQK.o (by unfold Jl;rw[HP2.o];simp)];rfl,HEr.o.trans HE5.o⟩
      ·have HP1:=hd hp1;clear hp1;go_wp2_with fail
       go_ret
       exact⟨by rw[HB3.o k hlt _ HQK.o (by unfold Jl;rw[HP1.o];rfl)];rfl,HEr.o.trans HE4.o⟩
    ·have hkQ:k=Q:=by omega
     subst hkQ
     have HB0:Hd (Cg m S rs ws=if rs.any (Gz S)=true then 2 else 0):=hd (by
      unfold Cg;rw[HQ1.o,HQ2.o,ijn (by decide),if_neg];rw[HQ.o,Bool.not_eq_true,List.any_eq_false];intro j hj;have h1:=HNO.o j (List.mem_range.1 hj);rw[Bool.not_eq_true];exact h1)
     clear HB3 HMT;go_wp2_with fail
     go_loopw [68] (fun i wr=>∃j:Nat,i=.int .i64 j/\j<=lr/\Hd (∀(q:Nat) (a:Ar),q<j->rs[q]? = some a->Gz S a=false)/\Hd (Ext [] w wr)/\Hd (RdA wr Ra rs)) (fun i _=>(lr-intOf i).toNat)
     case atStart=>exact⟨0,rfl,by omega,hd (fun q a hq=>absurd hq (by omega)),HEr,HRr⟩
     case round=>
      obtain⟨j,rfl,hj,HNU,HEs,HRs⟩:=hrel;rename World=>wl
      by_cases hlt:j<lr
      ·obtain⟨a,ha⟩:∃a,rs[j]? = some a:=⟨_,List.getElem?_eq_getElem (by have:=HLR.o;omega)⟩;obtain⟨b,o,rfl,hbl,h1,h2,h3⟩:=HRs.o.at ha;have HX:=hd ha;have hbd:=HBD.o a (.inl (ilm ha));have hbk:=HBK.o a (ilm ha);obtain⟨ab,al,az⟩:=a;dsimp only at h1 h2 h3 hbd hbk;clear ha;go_upto_region 15 with fail
       have HB7:=hd (Blk.new wl 91 #[ab,al,az]);have HE7:=hd (HEs.o.alloc (.cells #[ab,al,az] 91));have HEl:=hd ((Ext.refl [] wl).alloc (.cells #[ab,al,az] 91));clear h1 h2 h3;generalize wl.alloc (.cells #[ab,al,az] 91)=w7 at *;generalize hwl:wl.heap.size=bl at *;rcases hbk with rfl|⟨hbk0,hbk1⟩
       ·refine Am 20 (JE _) (Ext []) (Bw []) (by kernel_rfl) (by kernel_rfl) JE.less ?_ JE.start ?_
        ·exact Ah.nil
        simp only[TK]
        repeat(refine dE (fun wr nr hJ=>by(have qx:=HB7.o.ext hJ (by simp);have qxc:=qx.cell;have qxl:=qx.lt;clear qx);clear hJ;exact CL) ?_;simp only[PT])
        iterate 16
         refine Ee rfl ?_
         simp only[PT]
        refine Aa (fun w8 hJ hF=>?_)
        have HE8:=hd (HE7.o.trans hJ);have HEl8:=hd (HEl.o.trans hJ);clear hF hJ;go_wp2_with fail
        go_roundw
        case rel=>
         refine⟨j+1,by go_num,by omega,hd (fun q a hq hqa=>?_),HE8,hd (HRs.o.ext HEl8.o (by simp))⟩
         rcases Nat.lt_or_ge q j with h1|h1
         ·exact HNU.o q a h1 hqa
         ·have:q=j:=by omega
          subst this;rw[HX.o] at hqa;cases hqa
          unfold Gz;rfl
        case measure=>simp[intOf];omega
       ·obtain⟨bk,rfl⟩:∃n:Nat,ab=n:=⟨ab.toNat,by omega⟩;obtain⟨lo,rfl⟩:∃n:Nat,al=n:=⟨al.toNat,by omega⟩;obtain⟨sz,rfl⟩:∃n:Nat,az=n:=⟨az.toNat,by omega⟩;have hsb:Bn m (bk:Nat)=m.bank:=by unfold Bn;rw[ijn (by omega)]
        rw[hsb] at hbd;obtain⟨NB,hNB⟩:∃n,m.banks.toNat=n:=⟨_,rfl⟩;obtain⟨NK,hNK⟩:∃n,m.bank.toNat=n:=⟨_,rfl⟩;have HNB:=hd hNB;have HNK:=hd hNK;have hbkN:bk<NB:=by omega
        have hbkI:((bk:Nat):Int)<(NB:Int):=by omega
        have hloK:lo+sz<=NK:=by omega
        have hloL:lo<NK:=by omega
        have hloN:NK≠lo:=by omega
        have hNK4:NK<=4096:=by omega
        have hsz1:1<=sz:=by omega
        have hz1:(0:Int)<=(lo:Int)+(sz:Int):=by omega
        have hz2:(lo:Int)+(sz:Int)<=(NK:Int):=by omega
        have hz3:lo<=lo+sz:=by omega
        have hz4:lo+sz-lo=sz:=by omega
        have hz5:(lo:Int)<=(lo:Int)+(sz:Int):=by omega
        clear hNB hNK hsb hbd hbk0 hbk1 hm;refine Am 20 (JE _) (Ext []) (Bw []) (by kernel_rfl) (by kernel_rfl) JE.less ?_ JE.start ?_
        ·exact Ah.nil
        simp only[TK]
        repeat(refine dE (fun wr nr hJ=>by(have qx:=HB7.o.ext hJ (by simp);have qxc:=qx.cell;have qxl:=qx.lt;clear qx;have hC:=HH.o.nil (HE7.o.trans hJ);have q9:=hC.cell (i:=9) (by omega) (v:=.slice (some A.so) m.banks.toNat A.scap) rfl;rw[HNB.o] at q9;have qs:=hC.stat.sets.cell (i:=bk) (by rw[HNB.o];exact hbkN);rw[HNK.o] at qs;have ql:=hC.lt;have qsl:=hC.stat.sets.lt;clear hC);clear hJ;exact CL) ?_;simp only[PT])
        refine Aa (fun w8 hJ hF=>?_)
        have HE8:=hd (HE7.o.trans hJ);have HEl8:=hd (HEl.o.trans hJ)
        have HRT:Hd (RdT w8 (A.sb bk) lo sz (fun i=>S.set (bk:Nat) ((lo:Int)+(i:Nat)))):=hd (fun i hi=>by
         have h1:=((HH.o.nil HE8.o).mem.set bk (by rw[HNB.o];exact hbkN)).cell (i:=lo+i) (by rw[HNK.o];omega);rw[h1];congr 2)
        have hsl:=((HH.o.nil HE8.o).mem.set bk (by rw[HNB.o];exact hbkN)).lt;have HCT:=hd (Ki (A.sb bk) lo sz (NK-lo) _ w8 HRT.o (by omega) hsl);clear hF hJ hsl;go_wp2_with fail
        refine HCT.o.mono ?_
        rintro e w9 ⟨rfl,hE9⟩;have HE9:=hd (HE8.o.trans hE9);have HEl9:=hd (HEl8.o.trans hE9);clear hE9
        have HUS:Hd (Gz S ⟨(bk:Nat),(lo:Nat),(sz:Nat)⟩=((List.range sz).map (fun i=>S.set (bk:Nat) ((lo:Int)+(i:Nat)))).contains false):=hd (by
         unfold Gz;rw[decide_eq_true (show(0:Int)<=(bk:Nat) by omega),Bool.true_and];dsimp only;rw[Int.toNat_natCast])
        generalize ((List.range sz).map (fun i=>S.set (bk:Nat) ((lo:Int)+(i:Nat)))).contains false=ub at *;cases ub
        ·go_wp2_with fail
         go_roundw
         case rel=>
          refine⟨j+1,by go_num,by omega,hd (fun q a hq hqa=>?_),HE9,hd (HRs.o.ext HEl9.o (by simp))⟩
          rcases Nat.lt_or_ge q j with h1|h1
          ·exact HNU.o q a h1 hqa
          ·have:q=j:=by omega
           subst this;rw[HX.o] at hqa;cases hqa
           exact HUS.o
         case measure=>simp[intOf];omega
        ·have hun:rs.any (Gz S)=true:=List.any_eq_true.2 ⟨_,ilm HX.o,HUS.o⟩;have HUN:=hd hun;clear hun;go_wp2_with fail
         go_ret
         exact⟨by rw[HB0.o,HUN.o];rfl,HE9.o⟩
      ·have hjr:j=lr:=by omega
       subst hjr
       have hun:rs.any (Gz S)=false:=by
        rw[List.any_eq_false];intro a ha;obtain⟨q,hq⟩:=List.getElem?_of_mem ha;have h1:=HNU.o q a (by have:=(ils hq).1;have:=HLR.o;omega) hq;rw[h1];decide
       have HUN:=hd hun;clear hun;go_wp2_with fail
       go_ret
       exact⟨by rw[HB0.o,HUN.o];rfl,HEs.o⟩
  ·have HQ2:=hd hq2;clear hq2;go_wp2_with fail
   go_ret
   exact⟨by unfold Cg;rw[HQ1.o,HQ2.o];rfl,HE3.o⟩
 ·have HQ1:=hd hq1;clear hq1;go_wp2_with fail
  go_ret
  exact⟨by unfold Cg;rw[HQ1.o];rfl,HE2.o⟩
end
end Go.Proofs.YtkgmhggliifkjaaGreat
