import Derived.Test.YtfjdmoppfbddpaaGreatDoorP41
namespace Go.Proofs.YtfjdmoppfbddpaaGreatDoor
open Go.RowKit Go.Proofs.Tryz
set_option linter.all false
def rtA (no:Nat)(A:Option Addr)(n c:Nat)(inst:Nat):Array Value:=#[.int .i64 no,.slice A n c,.int .i64 0,.int .i64 0,.bool false,.int .i64 0,.int .i64 inst]
def kN (keep:Bool)(n:Nat):Nat:=if keep then n else 0
def kL {α:Type}(keep:Bool)(l:List α):List α:=if keep then l else []
def AddP (tb B hi mb pp no inst count:Nat)(keep:Bool)(vs:List Int)(D:List RtD)(many part n:Nat)(ts:List Tch)(V:Option Nat)(w:World)(e:Ending)(w':World):Prop:=
 ∃V',e=.returned (.tuple #[])/\LnkV w.heap.size V V'/\Ext (tb :: pp :: V.toList) w w'/\TouQ tb B hi keep (D ++ kL keep (ts.map (rtOf no vs))) (many+n) count V' w'/\Blk w' pp 3 #[.int .i64 (part+1+kN keep n:Nat)]
theorem infoRt:(Tryz.prog.info? 118).map (·.size)=some 7:=by kernel_rfl
theorem zRt_run (W:World):(zeroValue 118).run Tryz.prog W=.ok (.agg (rtA 0 none 0 0 0)) W:=by kernel_rfl
theorem ext3 {tb pp:Nat}{V V2:Option Nat}{w w1 w2:World}(h:Ext (tb :: pp :: V.toList) w w1)(hL:LnkV w.heap.size V V2)(k:Ext (tb :: pp :: V2.toList) w1 w2):Ext (tb :: pp :: V.toList) w w2:=h.step k fun x hx=>by
 rcases List.mem_cons.1 hx with rfl|hx
 ·left;simp
 ·rcases List.mem_cons.1 hx with rfl|hx
  ·left;simp
  ·rcases hL x (Option.mem_toList.1 hx) with h1|h1
   ·left;rw[h1];simp
   ·right;exact h1
attribute [local irreducible] relAt
set_option maxHeartbeats 16000000 in
set_option maxRecDepth 100000 in
theorem radd_any (tb B hi mb pp nb no inst count U:Nat)(keep:Bool)(VA:Option Addr)(vc:Nat)(names:List ByteArray)(vs:List Int)(w0:World)(hl:vs.length=names.length)(h8:vs.length<=8)(hvb:∀v∈vs,Bdd v)(hn8:∀x∈names,x.size<=8)(hw0:w0.heap.size<=tb)(hpp:hi<=pp)(hpp0:w0.heap.size<=pp):∀e:Ex,exprE names nb e=0->parts e<=1000000->∀(D:List RtD) (many part:Nat) (V:Option Nat) (w:World),
  TouQ tb B hi keep D many count V w->ExIn w0 e->Ext [] w0 w->MpR w mb names vs U->Blk w pp 3 #[.int .i64 (part+1:Nat)]->NumB B hi VA vs w->(keep=true->D.length+rdE e<=50000/\part+rdE e<=50000)->many+rdE e<=1000000000000000->
  Calls Tryz.prog 200 #[.pointer (some ⟨tb,0,none⟩),exV e,.map (some mb),.agg (rtA no VA vs.length vc inst),.pointer (some ⟨pp,0,none⟩)] w
   (AddP tb B hi mb pp no inst count keep vs D many part (rdE e) (rdT (names.zip vs) inst part e) V w):=by
 refine ex_ind fun h ks ih=>?_
 intro hx hp D many part V w hT hXI hE0 hM hP hN hb1 hb2;have HI:=hd ih;have HO:=hd (ExOk.of hx);have HT:=hd hT;have HXI:=hd hXI;have HE00:=hd hE0;have HM:=hd hM;have HPP:=hd hP;have HNB:=hd hN
 have HPL:=hd (fun j e (hj:ks[j]? = some e)=>(show parts e<=1000000 by
  have h1:=partsL_take hj;have h2:partsL (ks.take (j+1))<=partsL ks:=partsL_le;rw[parts] at hp;omega))
 have HRD:Hd (rdE (.mk h ks)=rdX h+rdEL ks):=hd (by rw[rdE]);have HRT:Hd (rdT (names.zip vs) inst part (.mk h ks)=rdC (names.zip vs) h inst part (rdX h) ++ rdTL (names.zip vs) inst (part+rdX h) ks):=hd (by rw[rdT]);have HBK:=hd hb1;rw[HRD.o] at hb2 HBK;have hn9:ks.length<=1000000:=hXI.row.1
 have HRX:Hd (h.k=4->(rdX h:Int)=h.m):=hd fun h4=>by
  have:=(HO.o.one h4).2.2.1;unfold rdX;rw[if_neg (by omega),if_pos h4];omega
 have HR3:Hd (h.k=3->rdX h=1):=hd fun h3=>by unfold rdX;rw[if_pos h3]
 have HR0:Hd (h.k≠3->h.k≠4->rdX h=0):=hd fun h3 h4=>by unfold rdX;rw[if_neg h3,if_neg h4]
 have hX9:rdX h<=262144:=by
  unfold rdX;split
  ·omega
  split
  ·rename_i h4
   have:=(HO.o.one h4).2.2.1;omega
  ·omega
 have HEN:Hd ((h.k=3\/h.k=4)->∀j:Nat,j<rdX h->0<=h.n*(j:Int)/\h.n*(j:Int)<=100000*262144):=hd fun hh j hj=>by
  rcases hh with h3|h4
  ·rw[HR3.o h3] at hj;have:j=0:=by omega
   subst this;simp
  ·obtain⟨-,⟨n1,n2⟩,⟨m1,m2⟩,-⟩:=HO.o.one h4;have:=HRX.o h4;exact⟨Int.mul_nonneg (by omega) (by omega),Int.mul_le_mul (by omega) (by omega) (by omega) (by omega)⟩
 have HKX:=hd (HO.o.kids);have HAO:=hd ((headX_spec (exprE_spec hx).1).2.2.2.2)
 have HBD:Hd (-100000000000<=evA (names.zip vs) h.at_/\evA (names.zip vs) h.at_<=100000000000):=hd (by
  rw[<-HO.o.aff.val hl];exact lnV_bdd HO.o.aff hvb h8)
 have HATM:=hd (fun W (hW:Ext [] w0 W) hm=>atM_any h.at_ mb U names vs W (HXI.o.at.keep hW) HAO.o hn8 hm);have htw:=hT.2.2;have htbB:=hT.1;have HVB:=hd hvb;have HN8:=hd hn8;have HL:=hd hl;clear ih hx hT hXI hE0 hM hP hN hb1 hvb hn8 hl hp;show Calls _ _ #[_,exHV h ks.length,_,_,_] _ _
 generalize henv:names.zip vs=env at *;have HENV:=hd henv;clear henv;generalize hd':vs.length=d at *;have HD:=hd hd';clear hd';generalize hkl:ks.length=m at *;have HKL:=hd hkl;clear hkl;have HRCS:=hd (fun k=>rdC_succ env h inst part k);have HEX:=hd ((((Ext.refl [] w).alloc (.cells (exHA h m) 41)).alloc (.cells (rtA no VA d vc inst) 118)));have HXB:=hd ((Blk.new w 41 (exHA h m)).alloc (.cells (rtA no VA d vc inst) 118));have HBB:=hd (Blk.new (w.alloc (.cells (exHA h m) 41)) 118 (rtA no VA d vc inst));rw[alloc_size] at HBB;have hw1:((w.alloc (.cells (exHA h m) 41)).alloc (.cells (rtA no VA d vc inst) 118)).heap.size=w.heap.size+1+1:=by rw[alloc_size,alloc_size]
 have HXK:Hd (exHA h m=#[.int .i64 h.k,.int .i64 h.op,.int .i64 h.lo,.int .i64 h.hi,.int .i64 h.n,.int .i64 h.m,.int .i64 h.buf,.int .i64 h.at_.base,.slice h.at_.A h.at_.ts.length h.at_.cap,.slice h.A m h.cap]):=hd rfl;have HRK:Hd (rtA no VA d vc inst=#[.int .i64 no,.slice VA d vc,.int .i64 0,.int .i64 0,.bool false,.int .i64 0,.int .i64 inst]):=hd rfl;unfold exHV;rw[HRK.o];go_enter Tryz.func200,Tryz.ntmps200
 go_upto_region 1 with fail
 rw[<-HXK.o,<-HRK.o];generalize World.alloc (World.alloc w _) _=w1 at *;generalize hws:w.heap.size=s at *;have HT1:=hd (HT.o.ext0 HEX.o);have HM1:=hd (HM.o.ext HEX.o (by simp));have HP1:=hd (HPP.o.ext HEX.o (by simp));have HN1:=hd (HNB.o.ext HEX.o (by simp));have HE01:=hd (HE00.o.trans HEX.o)
 have HVL:Hd (∀g,V=some g->B<=g/\g<s):=hd fun g hg=>by
  obtain⟨h1,C,h2⟩:=HT.o.own hg;have:=h2.lt;exact⟨h1,by omega⟩
 have hppl:pp<s:=by have:=HPP.o.lt;omega
 have htbl:tb<s:=by have:=HT.o.2.1;omega
 have HPV:Hd (∀(W:World) (V':Option Nat) (D':List RtD) (mn:Nat) (x:Int),TouQ tb B hi keep D' mn count V' W->Blk W pp 3 #[.int .i64 x]->V'≠some pp):=hd fun W V' D' mn x hT hP hv=>by
  obtain⟨-,C,h2⟩:=hT.own hv;exact absurd (h2.type hP) (by decide)
 have HPT:Hd (pp≠tb):=hd fun e=>by
  obtain⟨-,-,v,O,-,-,hB,-⟩:=HT.o;have:=HPP.o;rw[e] at this;exact absurd (hB.type this) (by decide)
 clear HT HPP HNB HM HE00;have q1:=HXB.o.cell;rw[HXK.o] at q1;have q1l:=HXB.o.lt;generalize hX:rdX h=X at *
 have HE34:Hd (0<X->h.k=3\/h.k=4):=hd fun h0=>by
  by_cases h3:h.k=3
  ·exact .inl h3
  ·by_cases h4:h.k=4
   ·exact .inr h4
   ·have:=HR0.o h3 h4;omega
 go_upto_block 0 with fail
 go_cut [10] (fun s wx=>s=.int .i64 (X:Nat)/\wx=w1)
 case first=>
  by_cases h3:h.k=3
  ·have hx:=HR3.o h3;have e3:(h.k==3)=true:=by simpa using h3
   clear h3;generalize h.k=hk at *;go_wp2_with fail
   go_meet
   exact⟨by rw[hx];rfl,rfl⟩
  ·by_cases h4:h.k=4
   ·have hx:=HRX.o h4;have e3:(h.k==3)=false:=by simpa using h3
    have e4:(h.k==4)=true:=by simpa using h4
    have HXX:=hd hx;clear h3 h4 hx;generalize h.k=hk at *;generalize h.m=hm at *;go_wp2_with fail
    go_meet
    exact⟨by rw[HXX.o],rfl⟩
   ·have hx:=HR0.o h3 h4;have e3:(h.k==3)=false:=by simpa using h3
    have e4:(h.k==4)=false:=by simpa using h4
    clear h3 h4;generalize h.k=hk at *;go_wp2_with fail
    go_meet
    exact⟨by rw[hx];rfl,rfl⟩
 case rest=>
  obtain⟨rfl,hw⟩:=hcut;have hw':=hw.symm;subst hw';clear q1 q1l hX;have HRL:=hd (fun j=>@rdEL_le ks j);generalize hrl:rdEL ks=RL at *;have HRE:=hd hrl;clear hrl;obtain⟨-,hB1,v,O,-,-,hB,-,-⟩:=HT1.o;have qt:=hB.cell;have qtf:=hB.frozen;have qtl:=hB.lt;clear hB;go_upto_region 8 with fail
  have HET:=hd (Ext.setAt (b:=tb) (i:=1) (u:=.int .i64 ((many:Int)+X)) (.inl (by simp)) (Ext.refl [tb] w1));have HT2:Hd (TouQ tb B hi keep D (many+X) count V (w1.setCell ⟨tb,1,none⟩ (.int .i64 ((many:Int)+X)))):=hd (HT1.o.set HET.o fun v hb=>hb.set_' 1 _ _ (by simp))
  have htm:mb≠tb:=by
   obtain⟨-,-,v',O',-,-,hB,-⟩:=HT1.o;exact HM1.o.apart hB
  have HM2:=hd (HM1.o.ext HET.o (by rw[List.mem_singleton];exact htm));have HP2:=hd (HP1.o.ext HET.o (by rw[List.mem_singleton];exact HPT.o));have HN2:Hd (NumB B hi VA vs (w1.setCell ⟨tb,1,none⟩ (.int .i64 ((many:Int)+X)))):=hd (HN1.o.ext HET.o fun b C hb _ _ hm=>by rw[List.mem_singleton.1 hm] at hb;omega);have HX2:=hd (HXB.o.ext HET.o (by rw[List.mem_singleton];omega));have HBB2:=hd (HBB.o.ext HET.o (by rw[List.mem_singleton];omega));have HE02:Hd (Ext [] w0 (w1.setCell ⟨tb,1,none⟩ (.int .i64 ((many:Int)+X)))):=hd (keep0 HE01.o HET.o fun x hx=>by rw[List.mem_singleton.1 hx];exact hw0);have HEW2:Hd (Ext (tb :: pp :: V.toList) w (w1.setCell ⟨tb,1,none⟩ (.int .i64 ((many:Int)+X)))):=hd ((HEX.o.nil).step HET.o fun x hx=>.inl (by rw[List.mem_singleton.1 hx];simp));have hw2:=HET.o.size;clear qt qtf qtl HT1 HM1 HP1 HN1 HXB HBB HE01;generalize World.setCell w1 _ _=w2 at *;go_upto_block 1 with fail
  go_cut [] (fun wx=>∃V2,Hd (LnkV w2.heap.size V V2)/\Hd (Ext (tb :: pp :: V.toList) w2 wx)/\Hd (TouQ tb B hi keep (D ++ kL keep ((rdC env h inst part X).map (rtOf no vs))) (many+X) count V2 wx)/\Hd (Blk wx pp 3 #[.int .i64 (part+1+kN keep X:Nat)]))
  case first=>
   cases keep
   ·
    obtain⟨-,hB2,v,O,-,-,hB,-,-⟩:=HT2.o;have qt:=hB.cell;have qtl:=hB.lt;clear hB;go_wp2_with fail
    go_loopw [32] (fun i wr=>i=.int .i64 0/\wr=w2) (fun _ _=>0)
    case atStart=>exact⟨rfl,rfl⟩
    case round=>
     obtain⟨rfl,hw⟩:=hrel;have hw':=hw.symm;subst hw';by_cases h0:(0:Int)<(X:Int)
     ·go_wp2_with fail
      go_meet
      exact⟨V,hd (LnkV.refl _ _),hd (Ext.refl _ _),hd (by simpa[kL] using HT2.o),hd (by simpa[kN] using HP2.o)⟩
     ·go_wp2_with fail
      go_meet
      exact⟨V,hd (LnkV.refl _ _),hd (Ext.refl _ _),hd (by simpa[kL] using HT2.o),hd (by simpa[kN] using HP2.o)⟩
   ·skip
    go_wp2_with fail
    go_loopw [32] (fun i wr=>∃(k:Nat) (V2:Option Nat),i=.int .i64 k/\k<=X/\Hd (LnkV w2.heap.size V V2)/\Hd (Ext (tb :: pp :: V.toList) w2 wr)/\Hd (TouQ tb B hi true (D ++ (rdC env h inst part k).map (rtOf no vs)) (many+X) count V2 wr)/\Hd (Blk wr pp 3 #[.int .i64 (part+1+k:Nat)])) (fun i _=>(X-intOf i).toNat)
    case atStart=>exact⟨0,V,rfl,Nat.zero_le _,hd (LnkV.refl _ _),hd (Ext.refl _ _),hd (by rw[rdC_zero,List.map_nil,List.append_nil];exact HT2.o),HP2⟩
    case round=>
     obtain⟨k,V2,rfl,hk,HLV,HE,HTk,HPk⟩:=hrel;rename World=>wq
     by_cases hlt:k<X
     ·have hkx:(k:Int)<(X:Int):=by omega
      have hbk:=HBK.o trivial;have hmul:=HEN.o (HE34.o (by omega)) k hlt
      have HNOT:Hd (∀b,s<=b->b∉tb :: pp :: V.toList):=hd fun b hb hm=>by
       rcases List.mem_cons.1 hm with h1|hm
       ·omega
       ·rcases List.mem_cons.1 hm with h1|hm
        ·omega
        ·have:=(HVL.o b (Option.mem_toList.1 hm)).2;omega
      have HXq:=hd (HX2.o.ext HE.o (HNOT.o s (Nat.le_refl s)));have HBq:=hd (HBB2.o.ext HE.o (HNOT.o (s+1) (by omega)))
      have HMq:=hd (HM2.o.ext HE.o fun hm=>by
       rcases List.mem_cons.1 hm with h1|hm
       ·exact htm h1
       ·rcases List.mem_cons.1 hm with h1|hm
        ·exact HM2.o.apart HP2.o h1
        ·obtain⟨-,C,hC⟩:=HT2.o.own (Option.mem_toList.1 hm);exact HM2.o.apart hC rfl)
      have HNq:Hd (NumB B hi VA vs wq):=hd (HN2.o.ext HE.o fun b C hb hb2 hC hm=>by
       rcases List.mem_cons.1 hm with h1|hm
       ·have:=HTk.o.1;omega
       ·rcases List.mem_cons.1 hm with h1|hm
        ·omega
        ·obtain⟨-,C',hC'⟩:=HT2.o.own (Option.mem_toList.1 hm);exact absurd (hC'.type hC) (by decide))
      have HE0q:Hd (Ext [] w0 wq):=hd (keep0 HE02.o HE.o fun x hx=>by
       rcases List.mem_cons.1 hx with rfl|hx
       ·exact hw0
       ·rcases List.mem_cons.1 hx with rfl|hx
        ·exact hpp0
        ·have:=(HVL.o x (Option.mem_toList.1 hx)).1;omega)
      have hwq:=HE.o.size;obtain⟨-,hBq,v,O,hv,hO,hB,hR,hNO⟩:=HTk.o;have HOV:=hd hv;have HOD:=hd hO;have HBT:=hd hB;have HRO:=hd hR;have HNO:=hd hNO;have qt:=hB.cell;have qtl:=hB.lt;have qb:=HBq.o.cell;rw[HRK.o] at qb;have qbl:=HBq.o.lt;clear hv hO hB hR hNO;have HE3:=hd ((Ext.refl [] wq).alloc (.cells (rtA no VA d vc inst) 118));have HC3:=hd (Blk.new wq 118 (rtA no VA d vc inst));have hw3:(wq.alloc (.cells (rtA no VA d vc inst) 118)).heap.size=wq.heap.size+1:=alloc_size _ _;have HXk:=hd (HRCS.o k);have hpk9:part+k<=50000:=by omega
      generalize hpk:part+1+k=pk at *;go_upto_region 13 with fail
      rw[<-HRK.o];generalize hW:World.alloc wq _=w3 at *;generalize hcb:wq.heap.size=cb at *;clear hW qb qbl qt qtl;have HX3:=hd (HXq.o.ext HE3.o (by simp));have HB3:=hd (HBq.o.ext HE3.o (by simp));have HM3:=hd (HMq.o.ext HE3.o (by simp));have HP3:=hd (HPk.o.ext HE3.o (by simp));have HT3:=hd (HBT.o.ext HE3.o (by simp));have HR3:=hd (own_ext HRO.o HE3.o (by simp));have HN3:Hd (NumB B hi VA vs w3):=hd (HNq.o.ext HE3.o (by simp));have HNO3:Hd (∀x∈O,NumB B hi x.A x.d.vs w3):=hd fun x hx=>(HNO.o x hx).ext HE3.o (by simp)
      have HE03:=hd (HE0q.o.trans HE3.o);have hsc:s+1+1<=cb:=by omega
      generalize hav:evA env h.at_=av at *;have m1 : -9223372036854775808<=h.n*(k:Int):=by omega
      have m2:h.n*(k:Int)<=9223372036854775807:=by omega
      have m3 : -9223372036854775808<=av+h.n*(k:Int):=by have:=HBD.o.1;omega
      have m4:av+h.n*(k:Int)<=9223372036854775807:=by have:=HBD.o.2;omega
      generalize hbf:h.buf=bf at *;generalize hen:h.n=en at *;clear hmul;refine rgT 18 cb 15 17 118 (fun x y=>#[.int .i64 no,.slice VA d vc,.int .i64 (if x then 0 else bf),.int .i64 (if y then 0 else av+en*(k:Int)),.bool false,.int .i64 0,.int .i64 inst]) [(5,sFix (.int .i64 av)),(15,sNone),(17,sNone)] rfl rfl (by simp[kinds]) (by simp[kinds]) (fun oi h=>by cases h;rfl) (fun oi h=>by cases h;rfl) (kinds_three (fun _ _ _ _ _ _ _=>trivial) (fun _ _ _ _ _ _ _=>trivial) (fun _ _ _ _ _ _ _=>trivial)) HC3.o ?_
      simp only[List.take_succ_cons,List.take_zero,List.drop_succ_cons,List.drop_zero]
      repeat
       refine relAt_detU rfl rfl ?_
       apply Exists.intro
       refine⟨fun wr nr hg hJ=>?_,?_⟩
       ·have qx:=(HX3.o.ext hJ.1 (by rw[List.mem_singleton];omega)).cell;have qxl:=(HX3.o.ext hJ.1 (by rw[List.mem_singleton];omega)).lt;rw[HXK.o] at qx;have qp:=(HP3.o.ext hJ.1 (by rw[List.mem_singleton];omega)).cell;have qpl:=(HP3.o.ext hJ.1 (by rw[List.mem_singleton];omega)).lt;clear hg;clear hJ;(go_simp;try go_bits)
        first|rfl|exact⟨rfl,rfl⟩
       simp only[Act.put,List.setIfInBounds_toArray,List.set_cons_succ,List.set_cons_zero]
      refine rel_extT (sFix (.int .i64 av)) rfl rfl (by decide) (by decide) ?_ ?_
      ·apply Exists.intro
       apply Exists.intro
       refine⟨fun wr=>?_,fun wr r hg hJ hf=>?_⟩
       ·go_simp
        first|exact⟨rfl,rfl⟩|rfl
       ·refine(HATM.o wr (keep0 HE03.o hJ.1 fun x hx=>by have:=HE0q.o.size;rw[List.mem_singleton.1 hx];omega) (HM3.o.ext hJ.1 (by rw[List.mem_singleton];exact HM3.o.apart HC3.o))).mono ?_
        rintro e w' ⟨rfl,hE⟩;exact⟨(),rfl,trivial,hE⟩
      rintro⟨⟩;simp only[Act.put,List.setIfInBounds_toArray,List.set_cons_succ,List.set_cons_zero]
      repeat
       refine relAt_detU rfl rfl ?_
       apply Exists.intro
       refine⟨fun wr nr hg hJ=>?_,?_⟩
       ·have qx:=(HX3.o.ext hJ.1 (by rw[List.mem_singleton];omega)).cell;have qxl:=(HX3.o.ext hJ.1 (by rw[List.mem_singleton];omega)).lt;rw[HXK.o] at qx;have qp:=(HP3.o.ext hJ.1 (by rw[List.mem_singleton];omega)).cell;have qpl:=(HP3.o.ext hJ.1 (by rw[List.mem_singleton];omega)).lt;clear hg;clear hJ;(go_simp;try go_bits)
        first|rfl|exact⟨rfl,rfl⟩
       simp only[Act.put,List.setIfInBounds_toArray,List.set_cons_succ,List.set_cons_zero]
      refine relAt_sayU sNone rfl rfl (fun _=>rfl) (fun wr r hg hJ hf=>?_) ?_
      ·refine⟨(),wr.setCell ⟨cb,2,none⟩ (.int .i64 bf),?_,trivial,hJ.seta (by decide) hg.mine (fun y=>by cases y<;>rfl),Ext.setAt (.inl (by simp)) (Ext.refl _ _)⟩
       have qc:=hJ.2.cell;have qf:=hJ.2.frozen;have qcl:=hJ.2.lt;clear hJ hg hf;(go_simp;try go_bits)
       try trivial
      rintro⟨⟩;simp only[Act.put,List.setIfInBounds_toArray,List.set_cons_succ,List.set_cons_zero]
      repeat
       refine relAt_detU rfl rfl ?_
       apply Exists.intro
       refine⟨fun wr nr hg hJ=>?_,?_⟩
       ·clear hg;clear hJ;(go_simp;try go_bits)
        first|rfl|exact⟨rfl,rfl⟩
       simp only[Act.put,List.setIfInBounds_toArray,List.set_cons_succ,List.set_cons_zero]
      refine relAt_sayU sNone rfl rfl (fun _=>rfl) (fun wr r hg hJ hf=>?_) ?_
      ·refine⟨(),wr.setCell ⟨cb,3,none⟩ (.int .i64 (av+en*(k:Int))),?_,trivial,hJ.setb (by decide) hg.mine (fun y=>by cases y<;>rfl),Ext.setAt (.inl (by simp)) (Ext.refl _ _)⟩
       have qc:=hJ.2.cell;have qf:=hJ.2.frozen;have qcl:=hJ.2.lt;clear hJ hg hf;(go_simp;try go_bits)
       try trivial
      rintro⟨⟩;simp only[Act.put,List.setIfInBounds_toArray,List.set_cons_succ,List.set_cons_zero];refine relAt_nilU (fun w4 r hr hJ hF=>?_)
      have HE4:=hd hJ.1;have hb4:=hJ.2;rw[hr 15 (by decide),hr 17 (by decide)] at hb4;have HB4:Hd (Blk w4 cb 118 #[.int .i64 no,.slice VA d vc,.int .i64 bf,.int .i64 (av+en*(k:Int)),.bool false,.int .i64 0,.int .i64 inst]):=hd hb4;clear hF hJ hr hb4;dsimp only[sFix,sNone];have HP4:=hd (HP3.o.ext HE4.o (by rw[List.mem_singleton];omega));have qc:=HB4.o.cell;have qf:=HB4.o.frozen;have qcl:=HB4.o.lt;have HE5:=hd (Ext.setAt (b:=cb) (i:=5) (u:=.int .i64 (pk:Nat)) (.inl (by simp)) HE4.o);have HB5:=hd (HB4.o.set_' 5 (.int .i64 (pk:Nat)) #[.int .i64 no,.slice VA d vc,.int .i64 bf,.int .i64 (av+en*(k:Int)),.bool false,.int .i64 (pk:Nat),.int .i64 inst] rfl);have HP5:=hd (HP4.o.far (p:=⟨cb,5,none⟩) (show pp≠cb by omega) (.int .i64 (pk:Nat)));go_upto_region 14 with fail
      generalize World.setCell w4 _ _=w5 at *;clear qc qf qcl;have qp:=HP5.o.cell;have qpf:=HP5.o.frozen;have qpl:=HP5.o.lt;have HE6:=hd (Ext.setAt (b:=pp) (i:=0) (u:=.int .i64 (pk+1)) (.inl (by simp)) (Ext.refl [pp] w5));have HP6:=hd (HP5.o.set_' 0 (.int .i64 (pk+1)) #[.int .i64 (pk+1)] rfl);have HB6:=hd (HB5.o.far (p:=⟨pp,0,none⟩) (show cb≠pp by omega) (.int .i64 (pk+1)));go_upto_region 15 with fail
      generalize World.setCell w5 _ _=w6 at *;clear qp qpf qpl
      have HVN:Hd (∀q,v.ownBlock=some q->B<=q/\q<cb/\q≠pp):=hd fun q hq=>by
       obtain⟨C,h6⟩:=own_blks HRO.o hq;have h7:=h6.lt;refine⟨own_base HRO.o q hq,by omega,fun e=>?_⟩
       rw[e] at h6;exact absurd (h6.type HPk.o) (by decide)
      have HX36:Hd (Ext [cb,pp] w3 w6):=hd ((HE5.o.mono fun x hx=>.inl (by rw[List.mem_singleton.1 hx];simp)).step HE6.o fun x hx=>.inl (by rw[List.mem_singleton.1 hx];simp));have htcb:tb<cb:=by omega
      have HT6:=hd (HT3.o.ext HX36.o (by simp only[List.mem_cons,List.not_mem_nil,or_false,not_or];exact⟨by omega,Ne.symm HPT.o⟩))
      have HR6:=hd (own_ext HR3.o HX36.o (fun q hq hm=>by
       have:=HVN.o q hq;simp only[List.mem_cons,List.not_mem_nil,or_false] at hm;omega))
      have hNlow:∀(b:Nat),b<hi->b∉[cb,pp]\/cb<=b:=fun b hb=>by
       simp only[List.mem_cons,List.not_mem_nil,or_false,not_or];omega
      have HN6:Hd (NumB B hi VA vs w6):=hd (HN3.o.ext HX36.o fun b C hb hb2 hC hm=>by
       have h7:=hC.apart HC3.o (by decide);simp only[List.mem_cons,List.not_mem_nil,or_false] at hm;omega)
      have HNO6:Hd (∀x∈O,NumB B hi x.A x.d.vs w6):=hd fun x hx=>(HNO3.o x hx).ext HX36.o fun b C hb hb2 hC hm=>by
       have h7:=hC.apart HC3.o (by decide);simp only[List.mem_cons,List.not_mem_nil,or_false] at hm;omega
      have hB6:B<=w6.heap.size:=by have h1:=HX36.o.size;have h2:=HE3.o.size;omega
      have HTB:Hd (tb∉v.ownBlock.toList):=hd fun hm=>by have:=(HVN.o tb (Option.mem_toList.1 hm)).1;omega
      have HCB:Hd (cb∉v.ownBlock.toList):=hd fun hm=>by have:=(HVN.o cb (Option.mem_toList.1 hm)).2.1;omega
      have HLT:Hd (∀q,v.ownBlock=some q->q<w6.heap.size):=hd fun q hq=>by
       obtain⟨C,h6⟩:=own_blks HR6.o hq;exact h6.lt
      have HYL:=hd (rts_len O);obtain⟨i0,hi0,hz0,hz1,hz2⟩:=rtInfo
      have hn5:O.length<=60000:=by
       have h1:=congrArg List.length HOD.o;rw[List.length_map,List.length_append,List.length_map,rdC_len] at h1;omega
      generalize hnt':O.length=nt at *;have HNT:=hd hnt';clear hnt';generalize hnews:rtL no VA d vc bf (av+en*(k:Int)) false pk inst=news at *;have HNW:=hd hnews;clear hnews;generalize hts:O.flatMap rtC=ts at *;have HTS:=hd hts;clear hts;refine rgW 8 v.ownBlock.toList (fun p y=>v.ownBlock=some p.block/\∃q,p.off=nt*7+q/\news[q]? = some y) [(6,sCells w6.heap.size news),(7,sRowA B 118 7 nt (ts ++ news) (fun g=>v.ownBlock=some g\/w6.heap.size<=g))] ?_ ?_
      ·refine Stays.cons (sCells.stays fun b j u y hb hu hf=>?_) (Stays.cons (sRowA.stays fun g i x y _ hx hf=>?_) Stays.nil)
       ·have:=HLT.o b hf.1;omega
       ·obtain⟨-,q,hq,hy⟩:=hf;simp only at hq;subst hq;rw[List.getElem?_append_right (by rw[HYL.o];omega),HYL.o,Nat.add_sub_cancel_left,hy] at hx;exact Option.some.inj hx
      simp only[List.take_succ_cons,List.take_zero,List.drop_succ_cons,List.drop_zero]
      repeat
       refine relAt_det rfl rfl ?_
       apply Exists.intro
       refine⟨fun wr nr hJ=>?_,?_⟩
       ·have qb:=(HT6.o.ext hJ.1 HTB.o).cell;have qbl:=(HT6.o.ext hJ.1 HTB.o).lt;have qc:=(HB6.o.ext hJ.1 HCB.o).cell;have qcl:=(HB6.o.ext hJ.1 HCB.o).lt;clear hJ;(go_simp;try go_bits)
        first|rfl|exact⟨rfl,rfl⟩
       simp only[Act.put,List.setIfInBounds_toArray,List.set_cons_succ,List.set_cons_zero]
      refine rel_newL (sCells w6.heap.size news) rfl rfl (fun wr nr hJ hf=>?_) ?_
      ·refine⟨wr.heap.size,.cells (rtL no VA d vc bf (av+en*(k:Int)) false pk inst).toArray 118,?_,Ext.size hJ.1,fun j u hu=>?_⟩
       ·refine exec_buildSlice rfl _ _ _ _ (.agg (rtL no VA d vc bf (av+en*(k:Int)) false pk inst).toArray) ?_ ?_
        ·rfl
        ·exact rt_slice wr no VA d vc bf (av+en*(k:Int)) false pk inst
       ·rw[(Blk.new wr 118 (rtL no VA d vc bf (av+en*(k:Int)) false pk inst).toArray).cell j];rw[<-HNW.o] at hu;rw[<-hu];simp
      intro (b8:Nat);simp only[Act.put,List.setIfInBounds_toArray,List.set_cons_succ,List.set_cons_zero];refine rel_appL B b8 48 118 i0 _ 7 72 v nt 1 ts news (fun g=>v.ownBlock=some g\/w6.heap.size<=g) _ _ rfl rfl rfl (by kernel_rfl) hi0 hz0 hz1 hz2 rfl (by decide) rfl rfl (by rw[<-HNW.o];rfl) (fun u hu=>?_) (fun w' n' hJ hf=>?_) hB6 (fun g hg hb=>.inl (Option.mem_toList.2 hg)) (fun g hg=>hg.imp And.left id) (fun g q u hg hb hu=>⟨hg,q,rfl,hu⟩) ?_ ?_ ?_
      ·rw[<-HNW.o] at hu;unfold rtL at hu;simp only[List.mem_cons,List.not_mem_nil,or_false] at hu;rcases hu with rfl|rfl|rfl|rfl|rfl|rfl|rfl<;>rfl
      ·have h8:(sCells w6.heap.size news).V b8 w':=get_after hf 6 (by kernel_rfl)
       exact⟨own_rw HR6.o hJ.2 fun g i x y hg hx hy=>by
        obtain⟨-,q,hq,-⟩:=hy;have h1:=(List.getElem?_eq_some_iff.1 hx).1;simp only at hq;rw[HYL.o] at h1;omega,h8.2⟩
      ·unfold maxLen;omega
      ·omega
      intro u9;simp only[Act.put,List.setIfInBounds_toArray,List.set_cons_succ,List.set_cons_zero];refine relAt_nil (fun wz hJ hF=>?_)
      obtain⟨gz,cz⟩:=u9;have hz:(sRowA B 118 7 nt (ts ++ news) (fun g=>v.ownBlock=some g\/w6.heap.size<=g)).V (gz,cz) wz:=hF 7;have HOZ:Hd (wz.ownsRow B 118 7 (.slice (some ⟨gz,0,none⟩) (nt+1) cz) (nt+1) (ts ++ news)):=hd hz.1;have HGO:Hd (v.ownBlock=some gz\/w6.heap.size<=gz):=hd hz.2;have HEZ:=hd hJ.1;clear hF hJ hz;dsimp only[sRowA];have HBZ:=hd (HT6.o.ext HEZ.o HTB.o);have qb:=HBZ.o.cell;have qf:=HBZ.o.frozen;have qbl:=HBZ.o.lt;have HBF:=hd (HBZ.o.set_' 0 (.slice (some ⟨gz,0,none⟩) (nt+1) cz) #[.slice (some ⟨gz,0,none⟩) (nt+1) cz,.int .i64 (many+X:Nat),.bool true,.int .i64 count] rfl);have HEF:=hd (Ext.setAt (b:=tb) (i:=0) (u:=.slice (some ⟨gz,0,none⟩) (nt+1) cz) (.inl (by simp)) (Ext.refl [tb] wz))
      have HGT:Hd (gz≠tb):=hd fun h=>by
       have:=own_base HOZ.o gz rfl;omega
      have HEE:Hd (Ext (tb :: v.ownBlock.toList) w6 (wz.setCell ⟨tb,0,none⟩ (.slice (some ⟨gz,0,none⟩) (nt+1) cz))):=hd ((HEZ.o.mono fun x hx=>.inl (List.mem_cons_of_mem _ hx)).step HEF.o fun x hx=>.inl (by rw[List.mem_singleton.1 hx];exact List.mem_cons_self ..));have HOF:=hd (own_ext HOZ.o HEF.o (fun k hk=>by cases hk;rw[List.mem_singleton];exact HGT.o));go_upto_region 16 with fail
      generalize World.setCell wz _ _=w9 at *
      have HRC:Hd (rtC ⟨rtOf no vs ⟨bf,av+en*(k:Int),(inst:Int),((part+k:Nat):Int),false⟩,VA,vc⟩=news):=hd (by
       rw[<-HNW.o];have h1:((part+k:Nat):Int)+1=(pk:Int):=by omega
       simp only[rtC,rtOf,HD.o,Bool.false_eq_true,if_false,h1])
      have HNEW:=hd (TouQ.snoc (keep:=true) (many:=many+X) (count:=count) (w:=w6) (w':=w9) (v:=v) (O:=O) (gz:=gz) (cz:=cz) ⟨rtOf no vs ⟨bf,av+en*(k:Int),(inst:Int),((part+k:Nat):Int),false⟩,VA,vc⟩ htbB hB6 (by rw[HNT.o,HTS.o];exact HR6.o) HNO6.o HN6.o HEE.o (by rw[HNT.o];exact HBF.o) (by rw[HNT.o,HTS.o,HRC.o];exact HOF.o));have HDN:Hd (O.map RtO.d ++ [rtOf no vs ⟨bf,av+en*(k:Int),(inst:Int),((part+k:Nat):Int),false⟩]=D ++ (rdC env h inst part (k+1)).map (rtOf no vs)):=hd (by rw[HOD.o,HXk.o,List.map_append,List.append_assoc];rfl)
      have HPN:=hd (HP6.o.ext HEE.o (fun hm=>by
       rcases List.mem_cons.1 hm with h1|hm
       ·exact HPT.o h1
       ·exact(HVN.o pp (Option.mem_toList.1 hm)).2.2 rfl))
      have hpk1:part+1+(k+1)=pk+1:=by omega
      have HPF:Hd (Blk w9 pp 3 #[.int .i64 (part+1+(k+1):Nat)]):=hd (by rw[hpk1];exact HPN.o);have hw26:w2.heap.size<=cb:=by omega
      have HLN:Hd (LnkV w2.heap.size V (some gz)):=hd fun g hg=>by
       cases hg
       rcases HGO.o with h1|h1
       ·exact HLV.o gz (HOV.o.symm.trans h1)
       ·right
        have:=HX36.o.size;have:=HE3.o.size;omega
      have HEN2:Hd (Ext (tb :: pp :: V.toList) w2 w9):=hd (((HE.o.trans HE3.o.nil).step HX36.o fun x hx=>by
       simp only[List.mem_cons,List.not_mem_nil,or_false] at hx;rcases hx with rfl|rfl
       ·right;exact hw26
       ·left;simp).step HEE.o fun x hx=>by
       rcases List.mem_cons.1 hx with rfl|hx
       ·left;simp
       ·rcases HLV.o x (HOV.o.symm.trans (Option.mem_toList.1 hx)) with h1|h1
        ·left;rw[h1];simp
        ·right;exact h1)
      clear hpk1;go_wp2_with fail
      go_roundw
      case rel=>exact⟨k+1,some gz,by go_num,by omega,HLN,HEN2,hd (by rw[<-HDN.o];exact HNEW.o),HPF⟩
      case measure=>simp[intOf];omega
     ·have hkm:k=X:=by omega
      subst hkm;go_wp2_with fail
      go_meet
      exact⟨V2,HLV,HE,by simpa[kL] using HTk,by simpa[kN] using HPk⟩
  case rest=>
   obtain⟨V2,HLV,HEV,HTV,HPV2⟩:=hcut;rename World=>w3
   have HNOT:Hd (∀b,s<=b->b<w2.heap.size->b∉tb :: pp :: V.toList):=hd fun b hb _ hm=>by
    rcases List.mem_cons.1 hm with h1|hm
    ·omega
    ·rcases List.mem_cons.1 hm with h1|hm
     ·omega
     ·have:=(HVL.o b (Option.mem_toList.1 hm)).2;omega
   have HKX3:Hd (∀W,Ext (tb :: pp :: V.toList) w2 W->Blk W s 41 (exHA h m)/\Blk W (s+1) 118 (rtA no VA d vc inst)/\MpR W mb names vs U/\NumB B hi VA vs W/\Ext [] w0 W):=hd fun W hE=>by
    refine⟨HX2.o.ext hE (HNOT.o s (Nat.le_refl s) (by omega)),HBB2.o.ext hE (HNOT.o (s+1) (by omega) (by omega)),HM2.o.ext hE fun hm=>?_,HN2.o.ext hE fun b C hb hb2 hC hm=>?_,keep0 HE02.o hE fun x hx=>?_⟩
    ·rcases List.mem_cons.1 hm with h1|hm
     ·exact htm h1
     ·rcases List.mem_cons.1 hm with h1|hm
      ·exact HM2.o.apart HP2.o h1
      ·obtain⟨-,C,hC⟩:=HT2.o.own (Option.mem_toList.1 hm);exact HM2.o.apart hC rfl
    ·rcases List.mem_cons.1 hm with h1|hm
     ·have:=HT2.o.1;omega
     ·rcases List.mem_cons.1 hm with h1|hm
      ·omega
      ·obtain⟨-,C',hC'⟩:=HT2.o.own (Option.mem_toList.1 hm);exact absurd (hC'.type hC) (by decide)
    ·rcases List.mem_cons.1 hx with rfl|hx
     ·exact hw0
     ·rcases List.mem_cons.1 hx with rfl|hx
      ·exact hpp0
      ·have:=(HVL.o x (Option.mem_toList.1 hx)).1;omega
   have hpart:part+kN keep X<=part+X:=by unfold kN;split<;>omega
   have q1:=(HKX3.o w3 HEV.o).1.cell;rw[HXK.o] at q1;have q1l:=(HKX3.o w3 HEV.o).1.lt;have HROW:=hd HXI.o.row;generalize hhA:h.A=hA at *;clear hhA;go_wp2_with fail
   clear q1 q1l;go_loopw [77] (fun i wr=>∃(j:Nat) (V3:Option Nat),i=.int .i64 j/\j<=m/\Hd (LnkV w2.heap.size V V3)/\Hd (Ext (tb :: pp :: V.toList) w2 wr)/\Hd (TouQ tb B hi keep ((D ++ kL keep ((rdC env h inst part X).map (rtOf no vs))) ++ kL keep ((rdTL env inst (part+X) (ks.take j)).map (rtOf no vs))) (many+X+rdEL (ks.take j)) count V3 wr)/\Hd (Blk wr pp 3 #[.int .i64 (part+kN keep X+kN keep (rdEL (ks.take j))+1:Nat)])) (fun i _=>(m-intOf i).toNat)
   case atStart=>exact⟨0,V2,rfl,Nat.zero_le _,HLV,HEV,hd (by simpa[rdTL,rdEL,kL] using HTV.o),hd (by
    have h1:part+kN keep X+kN keep (rdEL (ks.take 0))+1=part+1+kN keep X:=by simp[rdEL,kN];omega
    rw[h1];exact HPV2.o)⟩
   case round=>
    obtain⟨j,V3,rfl,hj,HLJ,HEJ,HTJ,HPJ⟩:=hrel;rename World=>wj
    by_cases hjl:j<m
    ·have hjm:(j:Int)<(m:Int):=by omega
     obtain⟨hX,hBBq,hMq,hNq,hE0q⟩:=HKX3.o wj HEJ.o;obtain⟨b,x,rfl,hx,hc⟩:=(HROW.o.keep hE0q).at (i:=j) (by have:=HKL.o;omega);have hmem:=List.mem_of_getElem? hx;have HTK:=hd (rdEL_take hx);have HTT:=hd (rdTL_take (env:=env) (inst:=inst) (part:=part+X) hx);have hle:rdEL (ks.take (j+1))<=RL:=HRL.o (j+1);rw[HTK.o] at hle;have HEx:=hd ((Ext.refl [] wj).alloc (.cells (exArr x) 41))
     have HCC:=hd (HI.o x hmem (HKX.o x hmem) (HPL.o j x hx) _ (many+X+rdEL (ks.take j)) (part+kN keep X+kN keep (rdEL (ks.take j))) V3 (wj.alloc (.cells (exArr x) 41)) (HTJ.o.ext0 HEx.o) (HXI.o.kid hmem) (hE0q.trans HEx.o) (hMq.ext HEx.o (by simp)) (HPJ.o.ext HEx.o (by simp)) (hNq.ext HEx.o (by simp)) (fun hk=>by
      subst hk;have h1:=HBK.o rfl;simp only[kL,kN,if_true,List.length_append,List.length_map,rdC_len,rdTL_len];exact⟨by omega,by omega⟩) (by omega))
     have HW:=hd (fun j v hv=>hc j v (by rw[exC_arr];exact hv):∀(j':Nat) (v:Value),(exArr x).toList[j']? = some v->wj.cell? ⟨b,j*10+j',none⟩=some v);have HW2:=hd (Blk.new wj 41 (exArr x)).wide;rw[exV_arr,HRK.o] at HCC;have qb:=(hBBq.ext HEx.o (by simp)).cell;rw[HRK.o] at qb;have qbl:=(hBBq.ext HEx.o (by simp)).lt;clear hX hMq hNq hE0q hx hc hmem hBBq hle
     go_wp2_with (first
      | refine wpList_load_wide rfl 41 _ rfl b (j*10) rfl (exArr x) HW.o _ Tryz.underlying41 rfl infoEx ?_
      | refine wpList_make_wide rfl rfl 41 _ _ rfl rfl zEx (zEx_run _) (exArr x) rfl rfl infoEx rfl (exArr_one x) ?_
      | refine wpList_load_wide rfl 41 _ rfl wj.heap.size 0 rfl (exArr x) HW2.o _ Tryz.underlying41 rfl infoEx ?_)
     refine HCC.o.mono ?_
     rintro r w7 ⟨V4,rfl,hL,hE,hT,hP⟩;have HL4:Hd (LnkV w2.heap.size V V4):=hd (HLJ.o.trans (fun g hg=>(hL g hg).imp id fun h1=>by have:=HEx.o.size;omega) (HEJ.o.size));have HE4:Hd (Ext (tb :: pp :: V.toList) w2 w7):=hd (ext3 (HEJ.o.trans HEx.o.nil) HLJ.o hE);have HT4:=hd hT;have HP4:=hd hP;clear hL hE hT hP HCC qb qbl;go_wp2_with fail
     go_roundw
     case rel=>
      refine⟨j+1,V4,by go_num,by omega,HL4,HE4,hd ?_,hd ?_⟩
      ·have h1:kL keep ((rdTL env inst (part+X) (ks.take (j+1))).map (rtOf no vs))=kL keep ((rdTL env inst (part+X) (ks.take j)).map (rtOf no vs)) ++ kL keep ((rdT env inst (part+kN keep X+kN keep (rdEL (ks.take j))) x).map (rtOf no vs)):=by
        rw[HTT.o];cases keep
        ·rfl
        ·simp[kL,kN]
       rw[h1,<-List.append_assoc,HTK.o,<-Nat.add_assoc];exact HT4.o
      ·have h1:part+kN keep X+kN keep (rdEL (ks.take j))+1+kN keep (rdE x)=part+kN keep X+kN keep (rdEL (ks.take (j+1)))+1:=by
        rw[HTK.o];cases keep
        ·simp[kN]
        ·simp[kN];omega
       rw[<-h1];exact HP4.o
     case measure=>simp[intOf];omega
    ·have hjm:j=m:=by omega
     subst hjm;have HTA:Hd (ks.take j=ks):=hd (List.take_of_length_le (by have:=HKL.o;omega));rw[HTA.o,HRE.o] at HTJ HPJ;go_wp2_with fail
     refine bodyPost_end (results_none rfl _ _ _) rfl ⟨V3,rfl,fun g hg=>(HLJ.o g hg).imp id fun h1=>by omega,HEW2.o.trans HEJ.o,?_,?_⟩
     ·rw[HRT.o,HRD.o]
      have h1:kL keep ((rdC env h inst part X ++ rdTL env inst (part+X) ks).map (rtOf no vs))=kL keep ((rdC env h inst part X).map (rtOf no vs)) ++ kL keep ((rdTL env inst (part+X) ks).map (rtOf no vs)):=by
       cases keep
       ·rfl
       ·simp[kL]
      rw[h1,<-List.append_assoc,<-Nat.add_assoc];exact HTJ.o
     ·rw[HRD.o]
      have h1:part+kN keep X+kN keep RL+1=part+1+kN keep (X+RL):=by
       cases keep
       ·simp[kN]
       ·simp[kN];omega
      rw[<-h1];exact HPJ.o
end Go.Proofs.YtfjdmoppfbddpaaGreatDoor
