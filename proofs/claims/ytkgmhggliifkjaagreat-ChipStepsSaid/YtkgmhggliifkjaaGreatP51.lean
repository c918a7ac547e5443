import Derived.Test.YtkgmhggliifkjaaGreatP07
import Derived.Lib.SlBytesConst
namespace Go.Proofs.YtkgmhggliifkjaaGreat
open Go.RowKit Go.Proofs.Tryz
set_option linter.all false
set_option maxHeartbeats 8000000
set_option maxRecDepth 100000
theorem Sc (m:Mc)(x:Ins)(w:World)(hb:Bq m.banks)(hq:Bq m.queues)(hl:Bq m.lanes) :
  Calls prog 63 #[.agg m.cells.toArray,.agg x.cells.toArray] w fun e w'=>e=.returned (.int .i64 (Gb m x))/\Ext [] w w':=by
 have HS:Hd (Gb m x=_):=hd (by unfold Gb;rfl);have hmc:m.cells=[.int .i64 m.main,.int .i64 m.banks,.int .i64 m.bank,.int .i64 m.lanes,.int .i64 m.queues]:=rfl;have hxc:x.cells=[.int .i64 x.op,.int .i64 x.k,.int .i64 x.d,.int .i64 x.a,.int .i64 x.b,.int .i64 x.c,.int .i64 x.p,.int .i64 x.n,.int .i64 x.m]:=rfl;have hmf:∀(fn:Fn) (first cap:Array Value) (w:World),(Instr.makeFunc fn first cap).run prog w=.ok (.func fn first cap) w:=fun _ _ _ _=>rfl
 generalize Gb m x=r at *;rw[hmc,hxc];go_enter func63,ntmps63
 go_wp2_with fail
 refine(Bp _ _ _ _).mono ?_
 rintro e w' ⟨rfl,rfl⟩;cases ho:inR x.op 1 19
 ·have HR:Hd (r=4):=hd (by rw[HS.o,ijp ho]);clear HS ho;go_wp2_with fail
  go_ret
  exact⟨Ai HR.o.symm,(er.alloc _).alloc _⟩
 ·go_wp2_with fail
  refine(Uv m x _ ho hb hq hl).mono ?_
  rintro e w1 ⟨A,cap,rfl,hRF,hE1⟩;have HX:=hd ((Blk.new' (w.alloc (.cells m.cells.toArray 27)) 76 x.cells.toArray (w.heap.size+1) (by simp)).ext hE1 (by simp));have HR:=hd hRF;have HE1:=hd ((((Ext.refl [] w).alloc _).alloc _).trans hE1);have hlx:=HX.o.lt;clear hRF hE1;have hcv:=Go.Lib.run_convert_bytes_const (P:=prog) (w1.alloc (.cells #[.slice A (Bd m x).length cap] 150)) 157 5 #[.int .u8 68,.int .u8 65,.int .u8 66,.int .u8 67,.int .u8 78,.int .u8 77] 6 6 (by kernel_rfl) (by kernel_rfl);rw[show(w1.alloc (.cells #[.slice A (Bd m x).length cap] 150)).heap.size=w1.heap.size+1 by simp] at hcv
  have HL:Hd (∀wr,Ext [] ((w1.alloc (.cells #[.slice A (Bd m x).length cap] 150)).alloc (.cells #[.int .u8 68,.int .u8 65,.int .u8 66,.int .u8 67,.int .u8 78,.int .u8 77] 5 (6,7))) wr->
    (∀k c,Dm[k]? = some c->wr.cell? ⟨w1.heap.size+1,k,none⟩=some (.int .u8 c))/\wr.cell? ⟨w1.heap.size,0,none⟩=some (.slice A (Bd m x).length cap)/\(∀i,wr.cell? ⟨w.heap.size+1,i,none⟩=x.cells.toArray[i]?)/\RdF wr A (Bd m x)/\Ext [] w wr):=hd (fun wr hE=>by
   have hE0:Ext [] w1 wr:=(((Ext.refl [] w1).alloc _).alloc _).trans hE;refine⟨fun k c hk=>?_,?_,?_,HR.o.ext hE0 (by simp),HE1.o.trans hE0⟩
   ·refine hE.held ?_ (by simp)
    have hh:((w1.alloc (.cells #[.slice A (Bd m x).length cap] 150)).alloc (.cells #[.int .u8 68,.int .u8 65,.int .u8 66,.int .u8 67,.int .u8 78,.int .u8 77] 5 (6,7))).heap[w1.heap.size+1]? = some (.cells #[.int .u8 68,.int .u8 65,.int .u8 66,.int .u8 67,.int .u8 78,.int .u8 77] 5 (6,7)):=by
     have h1:=Go.MapKept.heap_alloc (w1.alloc (.cells #[.slice A (Bd m x).length cap] 150)) (.cells #[.int .u8 68,.int .u8 65,.int .u8 66,.int .u8 67,.int .u8 78,.int .u8 77] 5 (6,7));have h2:=h1.1;rw[show(w1.alloc (.cells #[.slice A (Bd m x).length cap] 150)).heap.size=w1.heap.size+1 by simp] at h2;exact h2
    rw[cell_of_row _ _ _ _ _ _ hh];have hk6:k<6:=(ils hk).1
    match k,hk6,hk with
    | 0,_,hk|1,_,hk|2,_,hk|3,_,hk|4,_,hk|5,_,hk=>cases hk;rfl
   ·exact hE.held (((Blk.new w1 150 #[.slice A (Bd m x).length cap]).alloc _).cell 0) (by simp)
   ·exact(HX.o.ext hE0 (by simp)).cell)
  go_wp2_with fail
  clear hcv;have HFL:=hd (Qw m x);go_loopw [23] (fun i wr=>∃k:Nat,i=.int .i64 k/\k<=6/\Hd ((Dm.take k).all (Ga (Bd m x) x)=true)/\Ext [] ((w1.alloc (.cells #[.slice A (Bd m x).length cap] 150)).alloc (.cells #[.int .u8 68,.int .u8 65,.int .u8 66,.int .u8 67,.int .u8 78,.int .u8 77] 5 (6,7))) wr) (fun i _=>(6-intOf i).toNat)
  case atStart=>exact⟨0,rfl,by omega,hd rfl,er⟩
  case round=>
   obtain⟨k,rfl,hk,hA,hE⟩:=hrel;by_cases hlt:k<6
   ·obtain⟨c,hc⟩:∃c,Dm[k]? = some c:=⟨_,List.getElem?_eq_getElem hlt⟩;have hcm:=ilm hc;obtain⟨h1,h2,h3,h4,h5⟩:=HL.o _ hE;have hcell:=h1 k c hc;have hTake:Hd ((Dm.take (k+1)).all (Ga (Bd m x) x)=Ga (Bd m x) x c):=hd (by rw[List.take_add_one,hc,List.all_append,hA.o];simp);have HCM:=hd hcm;have HE:=hd hE;have H4:=hd h4;have H3:=hd h3;have H2:=hd h2;have hlv:=World.block_lt_of_cell? wr _ h2;simp only at hlv;clear h1 hc hcm hE h4 h5 h3 h2
    have HNE:Hd (Ga (Bd m x) x c=false->r=3):=hd (fun hno=>by
     rw[HS.o,ijn (by rw[ho];decide),if_pos];rw[Bool.eq_false_iff,ne_eq,List.all_eq_true];intro hall;rw[hall c HCM.o] at hno;cases hno)
    go_wp2_with fail
    refine(Agf A cap (Bd m x) w1.heap.size c _ H4.o H2.o (by have:=HFL.o;omega)).mono ?_
    rintro e w2 ⟨rfl,hE2⟩;cases hh:Sr (Bd m x) c
    ·obtain⟨_,_,g3,_,_⟩:=HL.o _ (HE.o.trans hE2);have HE2:=hd (HE.o.trans hE2);clear hE2 hcell;go_wp2_with fail
     refine(Abj (w.heap.size+1) c _ HCM.o).mono ?_
     rintro e w3 ⟨rfl,hE3⟩;have HE3:=hd (HE2.o.trans hE3)
     have hv:w3.cell? ⟨w.heap.size+1,Mj c,none⟩=some (.int .i64 (x.get c)):=by
      rw[(HL.o _ HE3.o).2.2.1];exact Wy x c HCM.o
     clear g3 hE3;have HNK:Hd (Ga (Bd m x) x c=(x.get c==0)):=hd (by unfold Ga;rw[hh,Bool.false_or]);generalize x.get c=v at *;by_cases hz:v=0
     ·subst hz;go_wp2_with fail
      go_round
      case rel=>exact⟨k+1,by go_num,by omega,hd (by rw[hTake.o,HNK.o];rfl),HE3.o⟩
      case measure=>simp[intOf];omega
     ·have hz2:(v==0)=false:=by simpa using hz
      have HR3:=hd (HNE.o (by rw[HNK.o,hz2]));clear HS HNE;go_wp2_with fail
      go_ret
      exact⟨Ai HR3.o.symm,(HL.o _ HE3.o).2.2.2.2⟩
    ·have HE2:=hd (HE.o.trans hE2);clear hE2 hcell;go_wp2_with fail
     go_round
     case rel=>exact⟨k+1,by go_num,by omega,hd (by rw[hTake.o];unfold Ga;rw[hh];rfl),HE2.o⟩
     case measure=>simp[intOf];omega
   ·have h6:k=6:=by omega
    subst h6
    have HAll:Hd (r=if Ji x then 3 else if(Bd m x).all (fun f=>inR (x.get f.name) f.low f.high)=false then 9 else if Gf x then 9 else 0):=hd (by
     rw[HS.o,ijn (by rw[ho];decide),if_neg];have:Dm.all (Ga (Bd m x) x)=true:=hA.o;rw[this];decide)
    obtain⟨_,_,g3,_,g5⟩:=HL.o _ hE;have HE:=hd hE;rw[hxc] at g3;have hlx2:w.heap.size+1<wr.heap.size:=nl hlx (by have:=hE.size;simp at this;omega);clear hE hA HS hk hlt g5;go_upto_region 11 with fail
    go_cut [9] (fun s9 wx=>s9=.bool (Cy x.op)/\wx=wr)
    case first=>
     by_cases h2:x.op=2
     ·have h2b:(x.op==2)=true:=by simpa using h2
      go_wp2_with fail
      go_meet
      exact⟨by simp[Cy,h2b],rfl⟩
     ·have h2b:(x.op==2)=false:=by simpa using h2
      go_wp2_with fail
      go_meet
      exact⟨by simp[Cy,h2b],rfl⟩
    case rest=>
     obtain⟨rfl,rfl⟩:=hcut;go_upto_region 12 with fail
     go_cut [9,69] (fun s9 s69 wx=>s9=.bool (Cy x.op)/\s69=.bool (Ji x)/\Ext [] ((w1.alloc (.cells #[.slice A (Bd m x).length cap] 150)).alloc (.cells #[.int .u8 68,.int .u8 65,.int .u8 66,.int .u8 67,.int .u8 78,.int .u8 77] 5 (6,7))) wx)
     case first=>
      have HK:Hd (Ji x=((!Cy x.op&&x.op != 18&&x.k != 0)||(!Mv x.op&&x.p != 0))):=hd rfl;generalize Ji x=kb at *
      cases hcb:Cy x.op<;>cases h18:(x.op != 18)<;>cases hk0:(x.k != 0)<;>cases hcd:Mv x.op<;>cases hp0:(x.p != 0)<;>(
       have HKK:=hd HK.o;rw[hcb,h18,hk0,hcd,hp0] at HK;clear HKK;go_wp2_with (go_at_call 107;refine(Pz _ _).mono ?_;rintro e w4 ⟨rfl,hE4⟩;have q4:=(HL.o _ (HE.o.trans hE4)).2.2.1;rw[hxc] at q4;rw[hcd])
       go_meet
       first
        | exact⟨by rw[hcb],by rw[HK.o];rfl,HE.o⟩
        | exact⟨by rw[hcb],by rw[HK.o];rfl,HE.o.trans hE4⟩)
     case rest=>
      obtain⟨rfl,rfl,hE2⟩:=hcut;have HE2:=hd hE2;obtain⟨_,h2,g4,_,_⟩:=HL.o _ hE2;have hlx3:w.heap.size+1<wc.heap.size:=nl hlx (by have:=hE2.size;simp at this;omega);have hlv:=World.block_lt_of_cell? wc _ h2;simp only at hlv;rw[hxc] at g4;clear hE2 g3 hlx2;cases hkb:Ji x
      ·have HR2:Hd (r=if(Bd m x).all (fun f=>inR (x.get f.name) f.low f.high)=false then 9 else if Gf x then 9 else 0):=hd (by rw[HAll.o,ijn (by rw[hkb];decide)]);clear HAll hkb;go_wp2_with fail
       clear g4 hlx3 hlv h2;go_loopw [72] (fun i wq=>∃k:Nat,i=.int .i64 k/\k<=(Bd m x).length/\Hd (((Bd m x).take k).all (fun f=>inR (x.get f.name) f.low f.high)=true)/\Ext [] ((w1.alloc (.cells #[.slice A (Bd m x).length cap] 150)).alloc (.cells #[.int .u8 68,.int .u8 65,.int .u8 66,.int .u8 67,.int .u8 78,.int .u8 77] 5 (6,7))) wq) (fun i _=>((Bd m x).length-intOf i).toNat)
       case atStart=>exact⟨0,rfl,by omega,hd rfl,HE2.o⟩
       case round=>
        obtain⟨k,rfl,hk,hA,hE⟩:=hrel;have hfl:=HFL.o;by_cases hlt:k<(Bd m x).length
        ·obtain⟨f,hf⟩:∃f,(Bd m x)[k]? = some f:=⟨_,List.getElem?_eq_getElem hlt⟩;have HF:=hd hf;have HNM:=hd (St m x f (ilm hf));obtain⟨_,_,_,g4,_⟩:=HL.o _ hE;rcases g4 with h0|⟨b,o,rfl,hc⟩
         ·rw[h0] at hlt;simp at hlt
         ·have h0:=hc k f hf 0 _ rfl;have h1:=hc k f hf 1 _ rfl;have h2:=hc k f hf 2 _ rfl;have h3:=hc k f hf 3 _ rfl;simp only[Nat.add_zero] at h0;have HE3:=hd hE;clear hc hf hE;go_wp2_with fail
          rename World=>wq
          refine rgE 11 [(2,Bv (.pointer (some ⟨w.heap.size+1,Mj f.name,none⟩))),(9,Bv (.bool (inR (x.get f.name) f.low f.high)))] ?_
          simp only[TK]
          repeat(refine dE (fun wr nr hJ=>by(have q1:=((Blk.new wq 154 #[.int .u8 f.name,.string f.kind,.int .i64 f.low,.int .i64 f.high]).ext hJ (by simp)).cell);clear hJ;exact CL) ?_;simp only[PT])
          refine Bj rfl rfl ?_ ?_
          ·apply Exists.intro
           apply Exists.intro
           refine⟨fun wr=>?_,fun wr nr hJ=>?_⟩
           ·go_simp
            first|exact⟨rfl,rfl⟩|rfl
           ·exact Abj (w.heap.size+1) f.name _ HNM.o
          simp only[PT]
          repeat(refine dE (fun wr nr hJ=>by(have q1:=((Blk.new wq 154 #[.int .u8 f.name,.string f.kind,.int .i64 f.low,.int .i64 f.high]).ext hJ (by simp)).cell;have q2:=((HL.o wr (HE3.o.trans ((er.alloc _).trans hJ))).2.2.1 (Mj f.name)).trans (Wy x f.name HNM.o));clear hJ;exact CL) ?_;simp only[PT])
          refine Bj rfl rfl ?_ ?_
          ·apply Exists.intro
           apply Exists.intro
           refine⟨fun wr=>?_,fun wr nr hJ=>?_⟩
           ·go_simp
            first|exact⟨rfl,rfl⟩|rfl
           ·exact(Bp _ _ _ _).mono (fun e w' h=>⟨h.1,h.2 ▸ er⟩)
          simp only[PT]
          repeat(refine dE (fun wr nr hJ=>by clear hJ;exact CL) ?_;simp only[PT])
          refine Aa (fun wy hJ hF=>?_)
          have HJ:=hd (HE3.o.trans ((er.alloc _).trans hJ));clear hF;have hfn:=ils HF.o;cases hin:inR (x.get f.name) f.low f.high
          ·have HR3:Hd (r=9):=hd (by
            rw[HR2.o,if_pos];rw[List.all_eq_false];exact⟨f,ilm HF.o,by rw[hin];decide⟩)
           clear hfn;go_wp2_with fail
           go_ret
           exact⟨Ai HR3.o.symm,(HL.o _ HJ.o).2.2.2.2⟩
          ·have HT:Hd (((Bd m x).take (k+1)).all (fun f=>inR (x.get f.name) f.low f.high)=true):=hd (by
            rw[List.take_add_one,HF.o,List.all_append,hA.o];simp[hin])
           clear hfn;go_wp2_with fail
           go_round
           case rel=>exact⟨k+1,by go_num,by omega,HT,HJ.o⟩
           case measure=>simp[intOf];omega
        ·have hk2:k=(Bd m x).length:=by omega
         have HR3:Hd (r=if Gf x then 9 else 0):=hd (by
          rw[HR2.o,if_neg];have:=hA.o;rw[hk2,List.take_length] at this;rw[this];decide)
         obtain⟨_,_,g4,_,_⟩:=HL.o _ hE;rw[hxc] at g4;have hlx4:w.heap.size+1<wr.heap.size:=nl hlx (by have:=hE.size;simp at this;omega);have HE3:=hd hE;clear hE hA hk2;have HB:Hd (Gf x=((Cy x.op&&(!inR x.k 4 15||(x.k==12&&decide (x.m<x.n))))||(x.op==18 && !inR x.k 1 2) || !inR x.p 0 16)):=hd rfl;have HE4:=hd (HL.o _ HE3.o).2.2.2.2;clear HE3 HE2 HE HL;cases hcb:Cy x.op
         ·skip
          cases h18:(x.op==18)
          ·cases hpr:inR x.p 0 16
           ·skip
            have HV:Hd (r=9):=hd (by rw[HR3.o,HB.o];simp[hcb,h18,hpr]);clear HR3 HB;go_wp2_with (first|(go_at_call 108;refine(Bs _ _).mono ?_;rintro e w4 ⟨rfl,rfl⟩;rw[hio])|(go_at_call 62;refine(Bp _ _ _ _).mono ?_;rintro e w4 ⟨rfl,rfl⟩;first|rw[hkr]|rw[hpr]))
            go_ret
            exact⟨Ai HV.o.symm,HE4.o⟩
           ·skip
            have HV:Hd (r=0):=hd (by rw[HR3.o,HB.o];simp[hcb,h18,hpr]);clear HR3 HB;go_wp2_with (first|(go_at_call 108;refine(Bs _ _).mono ?_;rintro e w4 ⟨rfl,rfl⟩;rw[hio])|(go_at_call 62;refine(Bp _ _ _ _).mono ?_;rintro e w4 ⟨rfl,rfl⟩;first|rw[hkr]|rw[hpr]))
            go_ret
            exact⟨Ai HV.o.symm,HE4.o⟩
          ·cases hkr:inR x.k 1 2
           ·skip
            have HV:Hd (r=9):=hd (by rw[HR3.o,HB.o];simp[hcb,h18,hkr]);clear HR3 HB;go_wp2_with (first|(go_at_call 108;refine(Bs _ _).mono ?_;rintro e w4 ⟨rfl,rfl⟩;rw[hio])|(go_at_call 62;refine(Bp _ _ _ _).mono ?_;rintro e w4 ⟨rfl,rfl⟩;first|rw[hkr]|rw[hpr]))
            go_ret
            exact⟨Ai HV.o.symm,HE4.o⟩
           ·cases hpr:inR x.p 0 16
            ·skip
             have HV:Hd (r=9):=hd (by rw[HR3.o,HB.o];simp[hcb,h18,hkr,hpr]);clear HR3 HB;go_wp2_with (first|(go_at_call 108;refine(Bs _ _).mono ?_;rintro e w4 ⟨rfl,rfl⟩;rw[hio])|(go_at_call 62;refine(Bp _ _ _ _).mono ?_;rintro e w4 ⟨rfl,rfl⟩;first|rw[hkr]|rw[hpr]))
             go_ret
             exact⟨Ai HV.o.symm,HE4.o⟩
            ·skip
             have HV:Hd (r=0):=hd (by rw[HR3.o,HB.o];simp[hcb,h18,hkr,hpr]);clear HR3 HB;go_wp2_with (first|(go_at_call 108;refine(Bs _ _).mono ?_;rintro e w4 ⟨rfl,rfl⟩;rw[hio])|(go_at_call 62;refine(Bp _ _ _ _).mono ?_;rintro e w4 ⟨rfl,rfl⟩;first|rw[hkr]|rw[hpr]))
             go_ret
             exact⟨Ai HV.o.symm,HE4.o⟩
         ·cases hio:inR x.k 4 15
          ·skip
           have HV:Hd (r=9):=hd (by rw[HR3.o,HB.o];simp[hcb,hio]);clear HR3 HB;go_wp2_with (first|(go_at_call 108;refine(Bs _ _).mono ?_;rintro e w4 ⟨rfl,rfl⟩;rw[hio])|(go_at_call 62;refine(Bp _ _ _ _).mono ?_;rintro e w4 ⟨rfl,rfl⟩;first|rw[hkr]|rw[hpr]))
           go_ret
           exact⟨Ai HV.o.symm,HE4.o⟩
          ·cases hk12:(x.k==12)
           ·skip
            cases h18:(x.op==18)
            ·cases hpr:inR x.p 0 16
             ·skip
              have HV:Hd (r=9):=hd (by rw[HR3.o,HB.o];simp[hcb,hio,hk12,h18,hpr]);clear HR3 HB;go_wp2_with (first|(go_at_call 108;refine(Bs _ _).mono ?_;rintro e w4 ⟨rfl,rfl⟩;rw[hio])|(go_at_call 62;refine(Bp _ _ _ _).mono ?_;rintro e w4 ⟨rfl,rfl⟩;first|rw[hkr]|rw[hpr]))
              go_ret
              exact⟨Ai HV.o.symm,HE4.o⟩
             ·skip
              have HV:Hd (r=0):=hd (by rw[HR3.o,HB.o];simp[hcb,hio,hk12,h18,hpr]);clear HR3 HB;go_wp2_with (first|(go_at_call 108;refine(Bs _ _).mono ?_;rintro e w4 ⟨rfl,rfl⟩;rw[hio])|(go_at_call 62;refine(Bp _ _ _ _).mono ?_;rintro e w4 ⟨rfl,rfl⟩;first|rw[hkr]|rw[hpr]))
              go_ret
              exact⟨Ai HV.o.symm,HE4.o⟩
            ·cases hkr:inR x.k 1 2
             ·skip
              have HV:Hd (r=9):=hd (by rw[HR3.o,HB.o];simp[hcb,hio,hk12,h18,hkr]);clear HR3 HB;go_wp2_with (first|(go_at_call 108;refine(Bs _ _).mono ?_;rintro e w4 ⟨rfl,rfl⟩;rw[hio])|(go_at_call 62;refine(Bp _ _ _ _).mono ?_;rintro e w4 ⟨rfl,rfl⟩;first|rw[hkr]|rw[hpr]))
              go_ret
              exact⟨Ai HV.o.symm,HE4.o⟩
             ·cases hpr:inR x.p 0 16
              ·skip
               have HV:Hd (r=9):=hd (by rw[HR3.o,HB.o];simp[hcb,hio,hk12,h18,hkr,hpr]);clear HR3 HB;go_wp2_with (first|(go_at_call 108;refine(Bs _ _).mono ?_;rintro e w4 ⟨rfl,rfl⟩;rw[hio])|(go_at_call 62;refine(Bp _ _ _ _).mono ?_;rintro e w4 ⟨rfl,rfl⟩;first|rw[hkr]|rw[hpr]))
               go_ret
               exact⟨Ai HV.o.symm,HE4.o⟩
              ·skip
               have HV:Hd (r=0):=hd (by rw[HR3.o,HB.o];simp[hcb,hio,hk12,h18,hkr,hpr]);clear HR3 HB;go_wp2_with (first|(go_at_call 108;refine(Bs _ _).mono ?_;rintro e w4 ⟨rfl,rfl⟩;rw[hio])|(go_at_call 62;refine(Bp _ _ _ _).mono ?_;rintro e w4 ⟨rfl,rfl⟩;first|rw[hkr]|rw[hpr]))
               go_ret
               exact⟨Ai HV.o.symm,HE4.o⟩
           ·by_cases hnm:x.m<x.n
            ·skip
             have HV:Hd (r=9):=hd (by rw[HR3.o,HB.o];simp[hcb,hio,hk12,hnm]);clear HR3 HB;go_wp2_with (first|(go_at_call 108;refine(Bs _ _).mono ?_;rintro e w4 ⟨rfl,rfl⟩;rw[hio])|(go_at_call 62;refine(Bp _ _ _ _).mono ?_;rintro e w4 ⟨rfl,rfl⟩;first|rw[hkr]|rw[hpr]))
             go_ret
             exact⟨Ai HV.o.symm,HE4.o⟩
            ·have hnm2:decide (x.m<x.n)=false:=by simpa using hnm
             cases h18:(x.op==18)
             ·cases hpr:inR x.p 0 16
              ·skip
               have HV:Hd (r=9):=hd (by rw[HR3.o,HB.o];simp[hcb,hio,hk12,hnm2,h18,hpr]);clear HR3 HB;go_wp2_with (first|(go_at_call 108;refine(Bs _ _).mono ?_;rintro e w4 ⟨rfl,rfl⟩;rw[hio])|(go_at_call 62;refine(Bp _ _ _ _).mono ?_;rintro e w4 ⟨rfl,rfl⟩;first|rw[hkr]|rw[hpr]))
               go_ret
               exact⟨Ai HV.o.symm,HE4.o⟩
              ·skip
               have HV:Hd (r=0):=hd (by rw[HR3.o,HB.o];simp[hcb,hio,hk12,hnm2,h18,hpr]);clear HR3 HB;go_wp2_with (first|(go_at_call 108;refine(Bs _ _).mono ?_;rintro e w4 ⟨rfl,rfl⟩;rw[hio])|(go_at_call 62;refine(Bp _ _ _ _).mono ?_;rintro e w4 ⟨rfl,rfl⟩;first|rw[hkr]|rw[hpr]))
               go_ret
               exact⟨Ai HV.o.symm,HE4.o⟩
             ·cases hkr:inR x.k 1 2
              ·skip
               have HV:Hd (r=9):=hd (by rw[HR3.o,HB.o];simp[hcb,hio,hk12,hnm2,h18,hkr]);clear HR3 HB;go_wp2_with (first|(go_at_call 108;refine(Bs _ _).mono ?_;rintro e w4 ⟨rfl,rfl⟩;rw[hio])|(go_at_call 62;refine(Bp _ _ _ _).mono ?_;rintro e w4 ⟨rfl,rfl⟩;first|rw[hkr]|rw[hpr]))
               go_ret
               exact⟨Ai HV.o.symm,HE4.o⟩
              ·cases hpr:inR x.p 0 16
               ·skip
                have HV:Hd (r=9):=hd (by rw[HR3.o,HB.o];simp[hcb,hio,hk12,hnm2,h18,hkr,hpr]);clear HR3 HB;go_wp2_with (first|(go_at_call 108;refine(Bs _ _).mono ?_;rintro e w4 ⟨rfl,rfl⟩;rw[hio])|(go_at_call 62;refine(Bp _ _ _ _).mono ?_;rintro e w4 ⟨rfl,rfl⟩;first|rw[hkr]|rw[hpr]))
                go_ret
                exact⟨Ai HV.o.symm,HE4.o⟩
               ·skip
                have HV:Hd (r=0):=hd (by rw[HR3.o,HB.o];simp[hcb,hio,hk12,hnm2,h18,hkr,hpr]);clear HR3 HB;go_wp2_with (first|(go_at_call 108;refine(Bs _ _).mono ?_;rintro e w4 ⟨rfl,rfl⟩;rw[hio])|(go_at_call 62;refine(Bp _ _ _ _).mono ?_;rintro e w4 ⟨rfl,rfl⟩;first|rw[hkr]|rw[hpr]))
                go_ret
                exact⟨Ai HV.o.symm,HE4.o⟩
      ·have HR2:Hd (r=3):=hd (by rw[HAll.o,ijp hkb]);clear HAll hkb;go_wp2_with fail
       go_ret
       exact⟨Ai HR2.o.symm,(HL.o _ HE2.o).2.2.2.2⟩
end Go.Proofs.YtkgmhggliifkjaaGreat
