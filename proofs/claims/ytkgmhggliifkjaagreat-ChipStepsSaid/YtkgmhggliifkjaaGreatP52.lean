import Derived.Test.YtkgmhggliifkjaaGreatP51
namespace Go.Proofs.YtkgmhggliifkjaaGreat
open Go.RowKit Go.Proofs.Tryz
set_option linter.all false
set_option maxHeartbeats 8000000
set_option maxRecDepth 100000
theorem Tl (m:Mc)(A:Option Addr)(cap:Nat)(xs:List Ins)(w:World)(hok:m.okB=true)(h:RdC w A xs)(hl:xs.length<=100000) :
  Calls prog 29 #[.agg m.cells.toArray,.slice A xs.length cap] w fun e w'=>e=.returned (.int .i64 (Cv m xs))/\Ext [] w w':=by
 have HR:=hd h;have HS2:Hd (Cv m xs=if Bh m 0 xs=0 then(if 40000000<(Fp xs).sum then 2 else 0) else Bh m 0 xs):=hd (by unfold Cv;rw[ijn (by simp[hok]),ijn (by omega)]);have HC:Hd (Lr m xs 0 0):=hd ⟨by simp,by omega⟩;have HF:Hd (∀D x,Dn m D x=if Gb m x=0 then(if x.op=4/\D=0 then 7 else if x.op=3/\16<=D then 2 else 0) else Gb m x):=hd fun D x=>Ag5 hok
 have HSM:Hd (Bq m.banks/\Bq m.queues/\Bq m.lanes):=hd (by
  unfold Mc.okB at hok;simp only[Bool.and_eq_true,Bi] at hok;unfold Bq;omega)
 clear h hok;have hmc:m.cells=[.int .i64 m.main,.int .i64 m.banks,.int .i64 m.bank,.int .i64 m.lanes,.int .i64 m.queues]:=rfl;rw[hmc];generalize Cv m xs=r at *;go_enter func29,ntmps29
 go_wp2_with fail
 have HB:=hd (Blk.new w 27 m.cells.toArray);have hbm:=HB.o.lt;go_loopw [5,16] (fun d i wr=>∃k D:Nat,i=.int .i64 k/\d=.int .i64 D/\k<=xs.length/\D<=16/\Hd (Lr m xs D k)/\Ext [] (w.alloc (.cells #[.int .i64 m.main,.int .i64 m.banks,.int .i64 m.bank,.int .i64 m.lanes,.int .i64 m.queues] 27)) wr) (fun _ i _=>(xs.length-intOf i).toNat)
 case atStart=>exact⟨0,0,rfl,rfl,by omega,by omega,HC,er⟩
 case round=>
  obtain⟨k,D,rfl,rfl,hk,hD16,hK,hE⟩:=hrel;have HE0:=hd (((Ext.refl [] w).alloc _).trans hE);by_cases hlt:k<xs.length
  ·obtain⟨x,hx⟩:∃x,xs[k]? = some x:=⟨_,List.getElem?_eq_getElem hlt⟩;have HX:=hd hx;obtain⟨b,o,rfl,hb,hcx⟩:=(HR.o.ext HE0.o (by simp)).at hx;have hxc:x.cells=[.int .i64 x.op,.int .i64 x.k,.int .i64 x.d,.int .i64 x.a,.int .i64 x.b,.int .i64 x.c,.int .i64 x.p,.int .i64 x.n,.int .i64 x.m]:=rfl;have h0:=hcx 0 _ rfl;have h1:=hcx 1 _ rfl;have h2:=hcx 2 _ rfl;have h3:=hcx 3 _ rfl;have h4:=hcx 4 _ rfl;have h5:=hcx 5 _ rfl;have h6:=hcx 6 _ rfl;have h7:=hcx 7 _ rfl;have h8:=hcx 8 _ rfl;simp only[Nat.add_zero] at h0;have hbc:=(HB.o.ext hE (by simp)).cell;have hbl:=(HB.o.ext hE (by simp)).lt;rw[hmc] at hbc;have HEk:=hd hE;clear hcx hx hE hbm;go_wp2_with fail
   refine(Sc m x _ HSM.o.1 HSM.o.2.1 HSM.o.2.2).mono ?_
   rintro e W1 ⟨rfl,hW1⟩;have HX1:=hd ((Blk.new wr 76 x.cells.toArray).ext hW1 (by simp));have hfx:=HX1.o.cell;have hlx:=HX1.o.lt;have HE1:=hd (HE0.o.trans ((er.alloc _).trans hW1));have HEm:Hd (Ext [] (w.alloc (.cells #[.int .i64 m.main,.int .i64 m.banks,.int .i64 m.bank,.int .i64 m.lanes,.int .i64 m.queues] 27)) W1):=hd (HEk.o.trans ((er.alloc _).trans hW1));rw[hxc] at hfx;have HI:=hd (HF.o D x);clear h0 h1 h2 h3 h4 h5 h6 h7 h8 hW1 hb hbc hbl;by_cases hi:Gb m x=0
   ·rw[hi];have HI2:Hd (Dn m D x=if x.op=4/\D=0 then 7 else if x.op=3/\16<=D then 2 else 0):=hd (by rw[HI.o,ijp hi]);clear HI hi;have hop:x.op=3\/x.op=4\/((x.op==3)=false/\(x.op==4)=false):=by simp;omega
    rcases hop with hop|hop|⟨hn3,hn4⟩
    ·by_cases hD:D=16
     ·have HI4:Hd (Dn m D x=2):=hd (by rw[HI2.o,ijn (by omega),ijp ⟨hop,by omega⟩]);rw[hop] at hfx;clear HI2;go_wp2_with fail
      go_ret
      exact⟨Ai (by rw[HS2.o,hK.o.stop HX.o (by rw[HI4.o];decide),HI4.o];rfl),HE1.o⟩
     ·have HI4:Hd (Dn m D x=0):=hd (by rw[HI2.o,ijn (by omega),ijn (by omega)]);have HD:Hd (Dk D x=D+1):=hd (by simp[Dk,hop]);rw[hop] at hfx;clear HI2;go_wp2_with fail
      go_round
      case rel=>exact⟨k+1,Dk D x,by go_num,by rw[HD.o];go_num,by omega,by rw[HD.o];omega,hd (hK.o.next HX.o HI4.o),HEm.o⟩
      case measure=>simp[intOf];omega
    ·by_cases hD:D=0
     ·have HI4:Hd (Dn m D x=7):=hd (by rw[HI2.o,ijp ⟨hop,hD⟩]);rw[hop] at hfx;clear HI2;go_wp2_with fail
      go_ret
      exact⟨Ai (by rw[HS2.o,hK.o.stop HX.o (by rw[HI4.o];decide),HI4.o];rfl),HE1.o⟩
     ·have HI4:Hd (Dn m D x=0):=hd (by rw[HI2.o,ijn (by omega),ijn (by omega)]);have HD:Hd (Dk D x=D-1):=hd (by simp[Dk,hop]);rw[hop] at hfx;clear HI2;go_wp2_with fail
      go_round
      case rel=>exact⟨k+1,Dk D x,by go_num,by rw[HD.o];go_num,by omega,by rw[HD.o];omega,hd (hK.o.next HX.o HI4.o),HEm.o⟩
      case measure=>simp[intOf];omega
    ·have HI4:Hd (Dn m D x=0):=hd (by
      simp only[beq_eq_false_iff_ne] at hn3 hn4;rw[HI2.o,ijn (by omega),ijn (by omega)])
     have HD:Hd (Dk D x=D):=hd (by
      simp only[beq_eq_false_iff_ne] at hn3 hn4;simp[Dk,hn3,hn4])
     clear HI2;go_wp2_with fail
     go_round
     case rel=>exact⟨k+1,Dk D x,by go_num,by rw[HD.o],by omega,by rw[HD.o];omega,hd (hK.o.next HX.o HI4.o),HEm.o⟩
     case measure=>simp[intOf];omega
   ·have HI2:Hd (Dn m D x=Gb m x):=hd (by rw[HI.o,ijn hi]);have hib:(Gb m x==0)=false:=by simpa using hi
    have HI3:Hd (Gb m x≠0):=hd hi;clear HI hi;generalize Gb m x=f at *;go_wp2_with fail
    go_ret
    exact⟨Ai (by rw[HS2.o,hK.o.stop HX.o (by rw[HI2.o];exact HI3.o),HI2.o,ijn HI3.o]),HE1.o⟩
  ·have HK:=hd (hK.o.end (by omega));by_cases hD:0<D
   ·have HK2:Hd (Bh m 0 xs=7):=hd (by rw[HK.o,ijp hD]);clear hE;go_wp2_with fail
    go_ret
    exact⟨Ai (by rw[HS2.o,HK2.o];rfl),HE0.o⟩
   ·have HK2:Hd (Bh m 0 xs=0):=hd (by rw[HK.o,ijn hD]);have HT:=hd (Tu HK2.o);clear hE;go_wp2_with fail
    refine(Oa _ _ xs hl (Hc HK2.o) xs.length xs.length 0 _ (Nat.le_refl _) hl (by omega) (by omega) (HR.o.ext HE0.o (by simp))).mono ?_
    rintro e W1 ⟨rfl,hW1⟩;have HE1:=hd (HE0.o.trans hW1);clear hW1;generalize sat (cnt xs xs.length 0).1=n at *;generalize (cnt xs xs.length 0).2=e2 at *;by_cases hn:40000000<n
    ·have HV:Hd (r=2):=hd (by rw[HS2.o,ijp HK2.o,ijp (HT.o.2 hn)]);clear HS2 HT;go_wp2_with fail
     go_ret
     exact⟨Ai HV.o.symm,HE1.o⟩
    ·have HV:Hd (r=0):=hd (by rw[HS2.o,ijp HK2.o,ijn (fun h=>hn (HT.o.1 h))]);clear HS2 HT;go_wp2_with fail
     go_ret
     exact⟨Ai HV.o.symm,HE1.o⟩
set_option maxRecDepth 4000
theorem Ng (m:Mc)(A:Option Addr)(cap:Nat)(xs:List Ins)(w:World)(h:RdC w A xs)(hl:xs.length<=100000) :
  Calls prog 9 #[.agg m.cells.toArray,.slice A xs.length cap] w fun e w'=>e=.returned (.int .i64 (Cv m xs))/\Ext [] w w':=by
 have HR:=hd h;have HS:Hd (m.okB=false->Cv m xs=9):=hd fun hok=>by unfold Cv;rw[ijp hok]
 clear h;have hmc:m.cells=[.int .i64 m.main,.int .i64 m.banks,.int .i64 m.bank,.int .i64 m.lanes,.int .i64 m.queues]:=rfl;rw[hmc];go_enter func9,ntmps9
 go_wp2_with fail
 refine(Ox m _).mono ?_
 rintro e w1 ⟨rfl,hE1⟩;have hB:=(Blk.new w 27 m.cells.toArray).ext hE1 (by simp);have hbc:=hB.cell;have hbl:=hB.lt;rw[hmc] at hbc;have HE1:=hd (((Ext.refl [] w).alloc _).trans hE1);clear hE1 hB;cases hok:m.okB
 ·simp only[okE];go_wp2_with fail
  go_ret
  exact⟨Ai (HS.o hok).symm,HE1.o⟩
 ·simp only[okE];go_wp2_with fail
  refine(Tl m _ _ xs _ hok (HR.o.ext HE1.o (by simp)) hl).mono ?_
  rintro e w2 ⟨rfl,hE2⟩;have HE2:=hd (HE1.o.trans hE2);clear hE2;go_wp2_with fail
  go_ret
  exact⟨rfl,HE2.o⟩
end Go.Proofs.YtkgmhggliifkjaaGreat
