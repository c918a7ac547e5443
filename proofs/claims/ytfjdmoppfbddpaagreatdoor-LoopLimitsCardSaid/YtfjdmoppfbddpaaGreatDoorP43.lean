import Derived.Test.YtfjdmoppfbddpaaGreatDoorP42
namespace Go.Proofs.YtfjdmoppfbddpaaGreatDoor
open Go.RowKit Go.Proofs.Tryz
set_option linter.all false
def plA (h:SH)(no:Nat)(NA:Option Addr)(n nc:Nat):Array Value:=#[.int .i64 h.k,.string h.var,.int .i64 h.lo,.int .i64 h.hi,.int .i64 h.step,.bool h.vec,.slice h.cA h.conds.length h.cc,.slice h.A 0 h.cap,.int .i64 h.buf,.int .i64 h.at_.base,.slice h.at_.A h.at_.ts.length h.at_.cap,
 .int .i64 h.val.h.k,.int .i64 h.val.h.op,.int .i64 h.val.h.lo,.int .i64 h.val.h.hi,.int .i64 h.val.h.n,.int .i64 h.val.h.m,.int .i64 h.val.h.buf,.int .i64 h.val.h.at_.base,.slice h.val.h.at_.A h.val.h.at_.ts.length h.val.h.at_.cap,.slice h.val.h.A h.val.ks.length h.val.h.cap,.int .i64 no,.slice NA n nc]
theorem plA_get (h:SH)(no:Nat)(NA:Option Addr)(n nc:Nat):(plA h no NA n nc)[8]? = some (.int .i64 h.buf)/\(plA h no NA n nc)[9]? = some (.int .i64 h.at_.base)/\(plA h no NA n nc)[10]? = some (.slice h.at_.A h.at_.ts.length h.at_.cap)/\(plA h no NA n nc)[21]? = some (.int .i64 no)/\(plA h no NA n nc)[22]? = some (.slice NA n nc)/\∀(j:Nat) (v:Value),(exArr h.val).toList[j]? = some v->(plA h no NA n nc)[11+j]? = some v:=
 ⟨rfl,rfl,rfl,rfl,rfl,fun j v hv=>by
  have h9:=(List.getElem?_eq_some_iff.1 hv).1;have:j=0\/j=1\/j=2\/j=3\/j=4\/j=5\/j=6\/j=7\/j=8\/j=9:=by simp[exArr] at h9;omega
  rcases this with rfl|rfl|rfl|rfl|rfl|rfl|rfl|rfl|rfl|rfl<;>exact hv⟩
def btA (no:Nat)(vv:Value)(buf at_:Int)(wr:Bool)(inst:Nat):Array Value:=#[.int .i64 no,vv,.int .i64 buf,.int .i64 at_,.bool wr,.int .i64 0,.int .i64 inst]
def sNewT (H:Nat):Spec:=⟨Nat,0,fun b=>.pointer (some ⟨b,0,none⟩),fun b w=>H<=b/\Blk w b 118 (rtA 0 none 0 0 0)⟩
theorem sNewT.stays {H:Nat}:∀y w w',RH [] w w'->(sNewT H).V y w->(sNewT H).V y w':=fun _ w w' h k=>⟨k.1,Blk.ext k.2 h.1 List.not_mem_nil⟩
def DisN (names:List ByteArray):Prop:=∀(i j:Nat) (x y:ByteArray),names[i]? = some x->names[j]? = some y->eqS x y=true->i=j
theorem TouQ.extT {tb B hi many count:Nat}{keep:Bool}{D:List RtD}{V:Option Nat}{w w':World}(h:TouQ tb B hi keep D many count V w){S:List Nat}(hE:Ext S w w')(hS:∀x∈S,x≠tb/\V≠some x/\∃C,Blk w x 118 C):TouQ tb B hi keep D many count V w':=by
 obtain⟨h0,h1,v,O,h2,h3,h4,h5,h6⟩:=h
 exact⟨h0,Nat.le_trans h1 hE.size,v,O,h2,h3,h4.ext hE fun hm=>(hS _ hm).1 rfl,own_ext h5 hE fun k hk hm=>(hS _ hm).2.1 (h2.symm.trans hk),fun x hx=>(h6 x hx).ext hE fun b C hb hb2 hC hm=>by
  obtain⟨D,hD⟩:=(hS _ hm).2.2;exact absurd (hD.type hC) (by decide)⟩
attribute [local irreducible] relAt
set_option maxHeartbeats 16000000 in
set_option maxRecDepth 100000 in
theorem rinst_any (tb B hi mb nb no count U many nc:Nat)(keep rd wr:Bool)(NA:Option Addr)(names:List ByteArray)(vs:List Int)(h:SH)(w0:World)(D:List RtD)(V:Option Nat)(w:World)(hl:vs.length=names.length)(h8:vs.length<=8)(hvb:∀v∈vs,Bdd v)(hn8:∀x∈names,x.size<=8)(hdn:DisN names)(hw0:w0.heap.size<=tb)
  (hT:TouQ tb B hi keep D many count V w) (hhi:hi<=w.heap.size) (hA:AfIn w0 h.at_) (hX:ExIn w0 h.val) (hE0:Ext [] w0 w) (haff:affE names h.at_=0) (hval:exprE names nb h.val=0) (hfit:parts h.val<=32) (hM:MpR w mb names vs U) (hN:SeqIn w NA 1 sC names) (hk9:keep=true->D.length+rdE h.val+1<=50000) (hm9:many+rdE h.val+1<=1000000000000000) (hc9:count<=1000000000) :
  Calls Tryz.prog 148 #[.pointer (some ⟨tb,0,none⟩),.agg (plA h no NA names.length nc),.map (some mb),.bool rd,.bool wr] w fun e w'=>∃V' hi',e=.returned (.tuple #[])/\LnkV w.heap.size V V'/\Ext (tb :: V.toList) w w'/\hi<=hi'/\hi'<=w'.heap.size/\
   TouQ tb B hi' keep (D ++ kL keep (kL rd ((tchI (names.zip vs) h count).map (rtOf no vs)) ++ kL wr [rtOf no vs (tchW (names.zip vs) h count)])) (many+(kN rd (rdE h.val)+kN wr 1)) (count+1) V' w':=by
 have HT:=hd hT;have HM:=hd hM;have HN:=hd hN;have HE00:=hd hE0;have HVAL:=hd hval;have HHX:=hd hX;have HVB:=hd hvb;have HN8:=hd hn8;have HLK:=hd (lk_get hl hdn);have HL:=hd hl;have HK9:=hd hk9;have HFIT:=hd hfit;have HATM:=hd (fun W (hW:Ext [] w0 W) hm=>atM_any h.at_ mb U names vs W (hA.keep hW) haff hn8 hm);obtain⟨p8,p9,p10,p21,p22,p11⟩:=plA_get h no NA names.length nc;have HP11:=hd p11;have hB1:=hT.2.1;have htB:=hT.1
 have HVL:Hd (∀g,V=some g->B<=g/\g<w.heap.size):=hd fun g hg=>by
  obtain⟨h1,C,h2⟩:=HT.o.own hg;exact⟨h1,h2.lt⟩
 have hnl9:names.length<=8:=by omega
 clear hT hM hN hE0 hval hX hvb hn8 hdn hl hk9 hA haff hfit p11;generalize henv:names.zip vs=env at *;have HENV:=hd henv;clear henv;have HEX:=hd ((Ext.refl [] w).alloc (.cells (plA h no NA names.length nc) 238));have HXB:=hd (Blk.new w 238 (plA h no NA names.length nc));have hw1:(w.alloc (.cells (plA h no NA names.length nc) 238)).heap.size=w.heap.size+1:=alloc_size _ _;generalize plA h no NA names.length nc=arr at *;generalize hnn:names.length=nn at *;have HNN:=hd hnn;clear hnn;go_enter Tryz.func148,Tryz.ntmps148
 go_upto_region 1 with fail
 generalize World.alloc w _=w1 at *;generalize hws:w.heap.size=s at *;have HT1:=hd (HT.o.ext0 HEX.o);have HM1:=hd (HM.o.ext HEX.o (by simp));have HN1:=hd (HN.o.keep HEX.o);have HE01:=hd (HE00.o.trans HEX.o)
 have HTB1:Hd (∃v,Blk w1 tb 173 #[v,.int .i64 many,.bool keep,.int .i64 count]):=hd (by
  obtain⟨-,-,v,O,-,-,hB,-,-⟩:=HT1.o;exact⟨v,hB⟩)
 obtain⟨vO,hTB⟩:=HTB1.o;have HTBB:=hd hTB;clear hTB HTB1 HT HM HN HE00;have hts:tb<s:=by omega
 refine rgH 8 [(7,sNewT w1.heap.size)] ?_ ?_
 ·refine Stays.cons sNewT.stays Stays.nil
 simp only[List.take_succ_cons,List.take_zero,List.drop_succ_cons,List.drop_zero]
 repeat
  refine relAt_det rfl rfl ?_
  apply Exists.intro
  refine⟨fun wr nr hJ=>?_,?_⟩
  ·have qx:=(HXB.o.ext hJ.1 (by simp)).cell;have qxl:=(HXB.o.ext hJ.1 (by simp)).lt;have qt:=(HTBB.o.ext hJ.1 (by simp)).cell;have qtl:=(HTBB.o.ext hJ.1 (by simp)).lt;clear hJ;(go_simp;try go_bits)
   first|rfl|exact⟨rfl,rfl⟩
  simp only[Act.put,List.setIfInBounds_toArray,List.set_cons_succ,List.set_cons_zero]
 refine rel_new (sNewT w1.heap.size) rfl rfl (fun wr nr hJ hf=>?_) ?_
 ·refine⟨wr.heap.size,.cells (rtA 0 none 0 0 0) 118,?_,hJ.1.size,Blk.new _ _ _⟩
  have hz:=zRt_run wr;(go_simp;try go_bits)
  rfl
 intro (bb:Nat);simp only[Act.put,List.setIfInBounds_toArray,List.set_cons_succ,List.set_cons_zero]
 repeat
  refine relAt_det rfl rfl ?_
  apply Exists.intro
  refine⟨fun wr nr hJ=>?_,?_⟩
  ·skip
   clear hJ;(go_simp;try go_bits)
   first|rfl|exact⟨rfl,rfl⟩
  simp only[Act.put,List.setIfInBounds_toArray,List.set_cons_succ,List.set_cons_zero]
 refine relAt_nil (fun w2 hJ hF=>?_)
 have HB2:Hd (w1.heap.size<=bb/\Blk w2 bb 118 (rtA 0 none 0 0 0)):=hd (hF 7);have HE2:=hd hJ.1;clear hF hJ;dsimp only[sNewT];have hbb:=HB2.o.1;have HEX2:=hd (HEX.o.trans HE2.o)
 go_upto_region 2 with(
  refine wpList_store_wide rfl 118 _ _ rfl bb (btA no (.slice none 0 0) 0 0 false count) (rtA 0 none 0 0 0) 118 rfl rfl HB2.o.2 (show _=some (btA no (.slice none 0 0) 0 0 false count).size from infoRt) rfl (by simp[btA];repeat(first|exact rfl|refine⟨rfl,?_⟩)) ?_
  intro w3 hB3 hE3;have HB3:=hd hB3;have HE3:=hd hE3;clear hB3 hE3)
 simp only[Act.put,List.setIfInBounds_toArray,List.set_cons_succ,List.set_cons_zero];generalize hH3:w3.heap.size=H3 at *;have hH1:w1.heap.size<=H3:=by have h1:=HE2.o.size;have h2:=HE3.o.size;omega
 have hbbH:bb<H3:=by have:=HB3.o.lt;omega
 have HEW3:Hd (Ext [] w w3):=hd (keep0 HEX2.o HE3.o fun x hx=>by rw[List.mem_singleton.1 hx];omega);have HXB3:=hd ((HXB.o.ext HE2.o (by simp)).ext HE3.o (by rw[List.mem_singleton];omega));have HM3:=hd ((HM1.o.ext HE2.o (by simp)).ext HE3.o (by rw[List.mem_singleton];exact(HM1.o.ext HE2.o (by simp)).apart HB2.o.2));have HE23:Hd (Ext [bb] w1 w3):=hd (HE2.o.nil.trans HE3.o);obtain⟨mm,hmm,-,hmb,hmk⟩:=HM3.o;have HMM:=hd hmm
 have HMK:Hd (∀i nm x,names[i]? = some nm->vs[i]? = some x->lk mm nm=x):=hd fun i nm x hi hx=>by
  rw[hmk nm (List.any_eq_true.2 ⟨nm,List.mem_of_getElem? hi,eqS_refl nm⟩),HENV.o];exact HLK.o i nm x hi hx
 clear hmm hmb hmk;have qx:=HXB3.o.cell;have qxl:=HXB3.o.lt;go_wp2_with fail
 clear qx qxl;go_loopw [24] (fun i wr=>∃(k:Nat) (vv:Value),i=.int .i64 k/\k<=nn/\Hd (Ext [bb] w3 wr)/\Hd (Blk wr bb 118 (btA no vv 0 0 false count))/\Hd (wr.ownsRow H3 3 1 vv k ((vs.take k).map (Value.int .i64)))) (fun i _=>(nn-intOf i).toNat)
 case atStart=>exact⟨0,.slice none 0 0,rfl,Nat.zero_le _,hd (Ext.refl _ _),HB3,hd (by simpa using own_none w3 H3 3 1)⟩
 case round=>
  obtain⟨k,vv,rfl,hk,HE,HBk,HOk⟩:=hrel;rename World=>wq
  by_cases hlt:k<nn
  ·
   have hkn:(k:Int)<(nn:Int):=by omega
   obtain⟨b,nm,rfl,hx,hc⟩:=HN1.o.at (i:=k) (by have:=HNN.o;omega);have hc0:w1.cell? ⟨b,k,none⟩=some (.string nm):=by have:=hc 0 _ rfl;rw[Nat.mul_one,Nat.add_zero] at this;exact this
   have hbl:=World.block_lt_of_cell? w1 _ hc0;simp only at hbl;have qn:wq.cell? ⟨b,k,none⟩=some (.string nm):=HE.o.held (HE23.o.held hc0 (by rw[List.mem_singleton];simp only;omega)) (by rw[List.mem_singleton];simp only;omega);have qnl:=World.block_lt_of_cell? wq _ qn;simp only at qnl;obtain⟨x,hxv⟩:∃x,vs[k]? = some x:=⟨_,List.getElem?_eq_getElem (by have:=HL.o;omega)⟩;have hlkx:=HMK.o k nm x hx hxv;have hnm8:=HN8.o nm (List.mem_of_getElem? hx);have hlk:=(HMM.o.ext HE.o (by rw[List.mem_singleton];exact HMM.o.apart HB3.o)).look (s:=nm) (by omega);rw[hlkx] at hlk;have HXV:=hd hxv;obtain⟨i0,hi0,hz0,hz1,hz2⟩:=intInfo;have qb:=HBk.o.cell;unfold btA at qb;have qbl:=HBk.o.lt;have HS9:=hd (Blk.new wq 3 #[.int .i64 x]);have hHq:H3<=wq.heap.size:=by have:=HE.o.size;omega
   clear hx hc hc0 hxv hlkx
   go_wp2_with (
    refine wpList_append_lies _ rfl _ _ 22 rfl H3 3 i0 _ 1 8 Tryz.underlying22 hi0 hz0 hz1 hz2 rfl (by decide) vv k ((vs.take k).map (Value.int .i64)) rfl ?c0 ⟨wq.heap.size,0,none⟩ 1 1 [.int .i64 x] rfl rfl ?c1 ?c2 (by omega) ?c3 ?c4 ?c5 _ rfl ?_
    case c0=>exact own_ext HOk.o ((Ext.refl [] wq).alloc _) (by simp)
    case c1=>exact new_one _ _ _ (HS9.o.cell 0)
    case c2=>intro u hu;rw[List.mem_singleton.1 hu];rfl
    case c3=>unfold maxLen;omega
    case c4=>omega
    case c5=>exact Nat.le_trans hHq ((Ext.refl [] wq).alloc _).size
    intro g8 c8 w8 ho8 hg8 hi8 ha8;have HO8:=hd ho8;have HE8:Hd (Ext vv.ownBlock.toList wq w8):=hd (((Ext.refl _ wq).alloc _).grown hg8 fun q hq=>.inl (Option.mem_toList.2 hq));have HB8:=hd (HBk.o.ext HE8.o fun hm=>by have:=own_base HOk.o bb (Option.mem_toList.1 hm);omega);have qb8:=HB8.o.cell;have qf8:=HB8.o.frozen;have qbl8:=HB8.o.lt;unfold btA at qb8;clear ho8 hg8 hi8 ha8 qb qbl)
   have HBF:=hd (HB8.o.set_' 1 (.slice (some ⟨g8,0,none⟩) (k+1) c8) (btA no (.slice (some ⟨g8,0,none⟩) (k+1) c8) 0 0 false count) rfl);have HEF:=hd (Ext.setAt (b:=bb) (i:=1) (u:=.slice (some ⟨g8,0,none⟩) (k+1) c8) (.inl (by simp)) (Ext.refl [bb] w8));have HTK:Hd (vs.take (k+1)=vs.take k ++ [x]):=hd (by rw[List.take_add_one,HXV.o];rfl);have hg8b:=own_base HO8.o g8 rfl
   have HOF:Hd ((w8.setCell ⟨bb,1,none⟩ (.slice (some ⟨g8,0,none⟩) (k+1) c8)).ownsRow H3 3 1 (.slice (some ⟨g8,0,none⟩) (k+1) c8) (k+1) ((vs.take (k+1)).map (Value.int .i64))):=hd (by
    rw[HTK.o,List.map_append];exact own_ext HO8.o HEF.o fun q hq=>by cases hq;rw[List.mem_singleton];show g8≠bb;omega)
   have HEN:Hd (Ext [bb] w3 (w8.setCell ⟨bb,1,none⟩ (.slice (some ⟨g8,0,none⟩) (k+1) c8))):=hd ((HE.o.step HE8.o fun q hq=>.inr (by have:=own_base HOk.o q (Option.mem_toList.1 hq);omega)).trans HEF.o);go_roundw
   case rel=>exact⟨k+1,_,by go_num,by omega,HEN,HBF,HOF⟩
   case measure=>simp[intOf];omega
  ·have hkm:k=nn:=by omega
   subst hkm;have HTV:Hd (vs.take k=vs):=hd (List.take_of_length_le (by have:=HL.o;omega));rw[HTV.o] at HOk;obtain⟨VA,vc,rfl,-,hnz⟩:=own_form HOk.o;have HEq:Hd (Ext [bb] w1 wq):=hd (HE23.o.trans HE.o);have HEQ:Hd (Ext [] w wq):=hd (keep0 HEX.o HEq.o fun x hx=>by rw[List.mem_singleton.1 hx];omega);have HE0Q:Hd (Ext [] w0 wq):=hd (keep0 HE01.o HEq.o fun x hx=>by rw[List.mem_singleton.1 hx];omega);have hHq:H3<=wq.heap.size:=by have:=HE.o.size;omega
   have HNB:Hd (NumB B wq.heap.size VA vs wq):=hd (by
    by_cases h0:vs=[]
    ·exact .inl h0
    ·have hk0:0<k:=by have h1:=HL.o;have:=List.length_pos_iff.2 h0;omega
     obtain⟨g,hg,h1,h2⟩:=hnz hk0;subst hg;obtain⟨C,hC⟩:=own_blks HOk.o (g:=g) rfl;refine .inr ⟨g,C,rfl,by omega,h2,hC,fun i x hx=>?_⟩
     rw[<-hC.cell];exact cell_row HOk.o rfl (by rw[List.getElem?_map,hx];rfl))
   have HTQ:Hd (TouQ tb B wq.heap.size keep D many count V wq):=hd ((HT1.o.ext HEq.o fun x hx=>by
    rw[List.mem_singleton.1 hx];exact⟨by omega,fun hv=>by have:=(HVL.o bb hv).2;omega,.inr (by omega)⟩).more (by omega))
   have HTBq:=hd (HTBB.o.ext HEq.o (by rw[List.mem_singleton];omega));have HXq:=hd (HXB3.o.ext HE.o (by rw[List.mem_singleton];omega));have HMq:=hd (HM3.o.ext HE.o (by rw[List.mem_singleton];exact HM3.o.apart HB3.o));have HLN:Hd (vs.length=k):=HL;clear hnz HOk HT1 HTBB HXB HXB3 HM1 HM3 HN1 HE01 HB3 HE3 HE HE23 HEq HEX HEX2 HMM HMK HLK HE2 HB2;generalize hhq:wq.heap.size=hq at *;have qt:=HTBq.o.cell;have qtf:=HTBq.o.frozen;have qtl:=HTBq.o.lt;have HES:=hd (Ext.setAt (b:=tb) (i:=3) (u:=.int .i64 ((count:Int)+1)) (.inl (by simp)) (Ext.refl [tb] wq));have HT4:Hd (TouQ tb B hq keep D many (count+1) V (wq.setCell ⟨tb,3,none⟩ (.int .i64 ((count:Int)+1)))):=hd (HTQ.o.set HES.o fun v hb=>hb.set_' 3 _ _ (by simp));have HTB4:=hd (HTBq.o.set_' 3 (.int .i64 ((count:Int)+1)) #[vO,.int .i64 many,.bool keep,.int .i64 ((count:Int)+1)] rfl);have hmt:mb≠tb:=HMq.o.apart HTBq.o;have hbt:bb≠tb:=by omega
   have hst:s≠tb:=by omega
   have HM4:=hd (HMq.o.ext HES.o (by rw[List.mem_singleton];exact hmt));have HB4:=hd (HBk.o.ext HES.o (by rw[List.mem_singleton];exact hbt));have HX4:=hd (HXq.o.ext HES.o (by rw[List.mem_singleton];exact hst));have HN4:Hd (NumB B hq VA vs (wq.setCell ⟨tb,3,none⟩ (.int .i64 ((count:Int)+1)))):=hd (HNB.o.ext HES.o fun b C hb _ _ hm=>by rw[List.mem_singleton.1 hm] at hb;omega);have HE4:Hd (Ext (tb :: V.toList) w (wq.setCell ⟨tb,3,none⟩ (.int .i64 ((count:Int)+1)))):=hd (HEQ.o.nil.step HES.o fun x hx=>.inl (by rw[List.mem_singleton.1 hx];simp));have HE04:Hd (Ext [] w0 (wq.setCell ⟨tb,3,none⟩ (.int .i64 ((count:Int)+1)))):=hd (keep0 HE0Q.o HES.o fun x hx=>by rw[List.mem_singleton.1 hx];exact hw0);have hw4:=HES.o.size;rw[hhq] at hw4;go_upto_region 8 with fail
   generalize World.setCell wq _ _=w4 at *;clear qt qtf qtl HTQ HTBq HXq HMq HNB HES HEQ HE0Q;have HE5:=hd ((Ext.refl [] w4).alloc (.cells #[.int .i64 1] 3));have HP5:=hd (Blk.new w4 3 #[.int .i64 1]);have hw5:(w4.alloc (.cells #[.int .i64 1] 3)).heap.size=w4.heap.size+1:=alloc_size _ _;have HPB:Hd (s<w4.heap.size/\bb<w4.heap.size/\tb<w4.heap.size/\hq<=w4.heap.size/\w0.heap.size<=w4.heap.size):=hd ⟨HX4.o.lt,HB4.o.lt,by omega,by omega,HE04.o.size⟩;go_upto_region 9 with fail
   have HT5:=hd (HT4.o.ext0 HE5.o);have HM5:=hd (HM4.o.ext HE5.o (by simp));have HB5:=hd (HB4.o.ext HE5.o (by simp));have HX5:=hd (HX4.o.ext HE5.o (by simp));have HN5:=hd (HN4.o.ext HE5.o (by simp));have HE45:Hd (Ext (tb :: V.toList) w (w4.alloc (.cells #[.int .i64 1] 3))):=hd (HE4.o.trans HE5.o.nil);have HE05:=hd (HE04.o.trans HE5.o);generalize World.alloc w4 _=w5 at *;generalize hpp:w4.heap.size=pp at *;clear HT4 HM4 HB4 HX4 HN4 HE4 HE04 HTB4;have HVS:=HVL;go_upto_if 44 with fail
   have hsp:=HPB.o.1;go_cut [] (fun wx=>∃V2,Hd (LnkV pp V V2)/\Hd (Ext (tb :: pp :: V.toList) w5 wx)/\Hd (TouQ tb B hq keep (D ++ kL keep (kL rd ((tchI env h count).map (rtOf no vs)))) (many+kN rd (rdE h.val)) (count+1) V2 wx))
   case first=>
    cases rd
    ·go_wp2_with fail
     go_meet
     exact⟨V,hd (LnkV.refl _ _),hd (Ext.refl _ _),hd (by have:=HT5.o;simpa[kL,kN] using this)⟩
    ·have HCC:=hd (radd_any tb B hq mb pp nb no count (count+1) U keep VA vc names vs w0 (HL.o.trans HNN.o.symm) h8 HVB.o HN8.o hw0 HPB.o.2.2.2.1 HPB.o.2.2.2.2 h.val HVAL.o (by have:=HFIT.o;omega) D many 0 V w5 HT5.o HHX.o HE05.o HM5.o HP5.o HN5.o (fun hk=>by have h1:=HK9.o hk;exact⟨by omega,by omega⟩) (by omega));rw[HENV.o,exV_arr] at HCC;have qx:=HX5.o.cell;have qxl:=HX5.o.lt;have HWX:Hd (∀(j:Nat) (v:Value),(exArr h.val).toList[j]? = some v->w5.cell? ⟨s,11+j,none⟩=some v):=hd fun j v hv=>by rw[qx];exact HP11.o j v hv
     have qb:=HB5.o.cell;unfold btA at qb;have qbl:=HB5.o.lt;clear qx
     go_wp2_with (first
      | refine wpList_load_wide rfl 41 _ rfl s 11 rfl (exArr h.val) HWX.o _ Tryz.underlying41 rfl infoEx ?_)
     have hrt:rtA no VA vs.length vc count=#[.int .i64 no,.slice VA k vc,.int .i64 0,.int .i64 0,.bool false,.int .i64 0,.int .i64 count]:=by rw[HLN.o];rfl
     rw[hrt] at HCC;refine HCC.o.mono ?_
     rintro r w7 ⟨V4,rfl,hL,hE,hT,hP⟩;have HL4:Hd (LnkV pp V V4):=hd fun g hg=>(hL g hg).imp id fun h1=>by omega
     have HE7:=hd hE;have HT7:=hd hT;clear hL hE hT hP HCC qb qbl hrt;go_wp2_with fail
     go_meet
     exact⟨V4,HL4,HE7,by simpa[kL,kN,tchI] using HT7⟩
   case rest=>
    obtain⟨V2,HLV,HEV,HTV2⟩:=hcut;rename World=>w6
    have HEW6:Hd (Ext (tb :: V.toList) w w6):=hd (HE45.o.step HEV.o fun x hx=>by
     rcases List.mem_cons.1 hx with rfl|hx
     ·left;simp
     ·rcases List.mem_cons.1 hx with rfl|hx
      ·right;have:=HPB.o.1;omega
      ·left;exact List.mem_cons_of_mem _ hx)
    have h6:w5.heap.size<=w6.heap.size:=HEV.o.size;cases wr
    ·go_wp2_with fail
     refine bodyPost_end (results_none rfl _ _ _) rfl ⟨V2,hq,rfl,fun g hg=>(HLV.o g hg).imp id fun h1=>by omega,HEW6.o,by omega,by omega,?_⟩
     have:=HTV2.o;simpa[kL,kN] using this
    ·have HNOT:Hd (∀b,s<=b->b≠pp->b∉tb :: pp :: V.toList):=hd fun b hb hb2 hm=>by
      rcases List.mem_cons.1 hm with h1|hm
      ·omega
      ·rcases List.mem_cons.1 hm with h1|hm
       ·exact hb2 h1
       ·have:=(HVS.o b (Option.mem_toList.1 hm)).2;omega
     have HX6:=hd (HX5.o.ext HEV.o (HNOT.o s (Nat.le_refl s) (by have:=HPB.o.1;omega)));have HB6:=hd (HB5.o.ext HEV.o (HNOT.o bb (by omega) (by have:=HPB.o.2.1;omega)))
     have HM6:=hd (HM5.o.ext HEV.o fun hm=>by
      rcases List.mem_cons.1 hm with h1|hm
      ·exact hmt h1
      ·rcases List.mem_cons.1 hm with h1|hm
       ·exact HM5.o.apart HP5.o h1
       ·obtain⟨-,C,hC⟩:=HT5.o.own (Option.mem_toList.1 hm);exact HM5.o.apart hC rfl)
     have HN6:Hd (NumB B hq VA vs w6):=hd (HN5.o.ext HEV.o fun b C hb hb2 hC hm=>by
      rcases List.mem_cons.1 hm with h1|hm
      ·omega
      ·rcases List.mem_cons.1 hm with h1|hm
       ·have:=HPB.o.2.2.2.1;omega
       ·obtain⟨-,C',hC'⟩:=HT5.o.own (Option.mem_toList.1 hm);exact absurd (hC'.type hC) (by decide))
     have HE06:Hd (Ext [] w0 w6):=hd (keep0 HE05.o HEV.o fun x hx=>by
      rcases List.mem_cons.1 hx with rfl|hx
      ·exact hw0
      ·rcases List.mem_cons.1 hx with rfl|hx
       ·have:=HPB.o.2.2.2.2;omega
       ·have:=(HVS.o x (Option.mem_toList.1 hx)).1;omega)
     have hpl6:pp<w6.heap.size:=by omega
     have HPB6:=HPB;clear HX5 HB5 HM5 HN5 HE05 HT5 HP5 HE5 HE45;obtain⟨-,hB6,v,O,hv,hO,hB,hR,hNO⟩:=HTV2.o;have qt:=hB.cell;have qtf:=hB.frozen;have qtl:=hB.lt;clear hv hO hB hR hNO;have HET:=hd (Ext.setAt (b:=tb) (i:=1) (u:=.int .i64 ((many+kN rd (rdE h.val):Nat)+1)) (.inl (by simp)) (Ext.refl [tb] w6));have HT7:Hd (TouQ tb B hq keep (D ++ kL keep (kL rd ((tchI env h count).map (rtOf no vs)))) (many+kN rd (rdE h.val)+1) (count+1) V2 (w6.setCell ⟨tb,1,none⟩ (.int .i64 ((many+kN rd (rdE h.val):Nat)+1)))):=hd (HTV2.o.set HET.o fun v hb=>hb.set_' 1 _ _ (by simp));have HX7:=hd (HX6.o.ext HET.o (by rw[List.mem_singleton];exact hst));have HB7:=hd (HB6.o.ext HET.o (by rw[List.mem_singleton];exact hbt));have HM7:=hd (HM6.o.ext HET.o (by rw[List.mem_singleton];exact hmt));have HN7:Hd (NumB B hq VA vs (w6.setCell ⟨tb,1,none⟩ (.int .i64 ((many+kN rd (rdE h.val):Nat)+1)))):=hd (HN6.o.ext HET.o fun b C hb _ _ hm=>by rw[List.mem_singleton.1 hm] at hb;omega);have HE07:Hd (Ext [] w0 (w6.setCell ⟨tb,1,none⟩ (.int .i64 ((many+kN rd (rdE h.val):Nat)+1)))):=hd (keep0 HE06.o HET.o fun x hx=>by rw[List.mem_singleton.1 hx];exact hw0);have HEW7:Hd (Ext (tb :: V.toList) w (w6.setCell ⟨tb,1,none⟩ (.int .i64 ((many+kN rd (rdE h.val):Nat)+1)))):=hd (HEW6.o.step HET.o fun x hx=>.inl (by rw[List.mem_singleton.1 hx];simp));have hw7:=HET.o.size;have hkn:kN rd (rdE h.val)<=rdE h.val:=by unfold kN;split<;>omega
     generalize hmk:many+kN rd (rdE h.val)=mk at *;go_upto_region 13 with fail
     generalize World.setCell w6 _ _=w7 at *;clear qt qtf qtl HX6 HB6 HM6 HN6 HE06 HTV2;generalize hav:evA env h.at_=av at *;have qx0:=HX7.o.cell;refine rgH 9 [(7,sFix (.int .i64 av))] ?_ ?_
     ·refine Stays.cons sFix.stays Stays.nil
     simp only[List.take_succ_cons,List.take_zero,List.drop_succ_cons,List.drop_zero];clear qx0
     repeat
      refine relAt_det rfl rfl ?_
      apply Exists.intro
      refine⟨fun wr nr hJ=>?_,?_⟩
      ·have qx:=(HX7.o.ext hJ.1 (by simp)).cell;have qxl:=(HX7.o.ext hJ.1 (by simp)).lt;have qb:=(HB7.o.ext hJ.1 (by simp)).cell;have qbl:=(HB7.o.ext hJ.1 (by simp)).lt;clear hJ;(go_simp;try go_bits)
       first|rfl|exact⟨rfl,rfl⟩
      simp only[Act.put,List.setIfInBounds_toArray,List.set_cons_succ,List.set_cons_zero]
     refine rel_ext (sFix (.int .i64 av)) rfl rfl ?_ ?_
     ·apply Exists.intro
      apply Exists.intro
      refine⟨fun wr=>?_,fun wr n hJ hf=>?_⟩
      ·go_simp
       first|exact⟨rfl,rfl⟩|rfl
      ·refine(HATM.o wr (HE07.o.trans hJ.1) (HM7.o.ext hJ.1 (by simp))).mono ?_
       rintro e w' ⟨rfl,hE⟩;exact⟨(),rfl,trivial,hE⟩
     rintro⟨⟩;simp only[Act.put,List.setIfInBounds_toArray,List.set_cons_succ,List.set_cons_zero]
     repeat
      refine relAt_det rfl rfl ?_
      apply Exists.intro
      refine⟨fun wr nr hJ=>?_,?_⟩
      ·have qx:=(HX7.o.ext hJ.1 (by simp)).cell;have qxl:=(HX7.o.ext hJ.1 (by simp)).lt;have qb:=(HB7.o.ext hJ.1 (by simp)).cell;have qbl:=(HB7.o.ext hJ.1 (by simp)).lt;clear hJ;(go_simp;try go_bits)
       first|rfl|exact⟨rfl,rfl⟩
      simp only[Act.put,List.setIfInBounds_toArray,List.set_cons_succ,List.set_cons_zero]
     refine relAt_nil (fun w8 hJ hF=>?_)
     have HE8:=hd hJ.1;clear hF hJ;dsimp only[sFix];have HT8:=hd (HT7.o.ext0 HE8.o);have HB8:=hd (HB7.o.ext HE8.o (by simp));have HN8':=hd (HN7.o.ext HE8.o (by simp));have HEW8:Hd (Ext (tb :: V.toList) w w8):=hd (HEW7.o.trans HE8.o.nil);have hw8:=HE8.o.size;have qb:=HB8.o.cell;unfold btA at qb;have qbf:=HB8.o.frozen;have qbl:=HB8.o.lt;have HB9:=hd (((HB8.o.set_' 2 (.int .i64 h.buf) (btA no (.slice VA k vc) h.buf 0 false count) rfl).set_' 3 (.int .i64 av) (btA no (.slice VA k vc) h.buf av false count) rfl).set_' 4 (.bool true) (btA no (.slice VA k vc) h.buf av true count) rfl);have HE9:Hd (Ext [bb] w8 (((w8.setCell ⟨bb,2,none⟩ (.int .i64 h.buf)).setCell ⟨bb,3,none⟩ (.int .i64 av)).setCell ⟨bb,4,none⟩ (.bool true))):=hd (((Ext.setAt (.inl (by simp)) (Ext.refl [bb] w8)).trans (Ext.setAt (.inl (by simp)) (Ext.refl [bb] _))).trans (Ext.setAt (.inl (by simp)) (Ext.refl [bb] _)));go_upto_region 14 with fail
     generalize World.setCell (World.setCell (World.setCell w8 _ _) _ _) _ _=w9 at *
     have HT9:Hd (TouQ tb B hq keep (D ++ kL keep (kL rd ((tchI env h count).map (rtOf no vs)))) (mk+1) (count+1) V2 w9):=hd (HT8.o.extT HE9.o fun x hx=>by
      rw[List.mem_singleton.1 hx]
      exact⟨hbt,fun hv=>by
       have h2:=HPB.o.2.1;rcases HLV.o bb hv with h1|h1
       ·have:=(HVS.o bb h1).2;omega
       ·omega,_,HB8.o⟩)
     have HN9:Hd (NumB B hq VA vs w9):=hd (HN8'.o.ext HE9.o fun b C hb hb2 hC hm=>by
      rw[List.mem_singleton.1 hm] at hC;exact absurd (hC.type HB8.o) (by decide))
     have HEW9:Hd (Ext (tb :: V.toList) w w9):=hd (HEW8.o.step HE9.o fun x hx=>.inr (by rw[List.mem_singleton.1 hx];omega));have hw9:=HE9.o.size;have HQC:Hd (rtOf no vs (tchW env h count)=⟨no,vs,h.buf,av,true,0,(count:Int)⟩):=hd (by rw[<-hav];rfl);have HVN2:Hd (∀x,V2=some x->V=some x\/s<=x):=hd fun x hx=>(HLV.o x hx).imp id fun h1=>by omega
     clear qb qbf qbl HB8 HN8' HEW8 HT8 HE8 HE9 HB7 HN7 HEW7 HT7 HX7 HM7 HE07;cases keep
     ·obtain⟨-,-,v,O,-,-,hB,-,-⟩:=HT9.o;have qt:=hB.cell;have qtl:=hB.lt;clear hB;go_wp2_with fail
      refine bodyPost_end (results_none rfl _ _ _) rfl ⟨V2,hq,rfl,fun g hg=>(HVN2.o g hg).imp id fun h1=>by omega,HEW9.o,by omega,by omega,?_⟩
      have h1:many+(kN rd (rdE h.val)+kN true 1)=mk+1:=by rw[<-hmk];simp[kN];omega
      rw[h1];have:=HT9.o;simpa[kL] using this
     ·obtain⟨-,hB9,v,O,hv,hO,hB,hR,hNO⟩:=HT9.o;have HOV:=hd hv;have HOD:=hd hO;have HBT:=hd hB;have HRO:=hd hR;have HNO:=hd hNO;have qt:=hB.cell;have qtl:=hB.lt;clear hv hO hB hR hNO;go_upto_region 15 with fail
      clear qt qtl
      have HVN:Hd (∀q,v.ownBlock=some q->B<=q/\q<w9.heap.size/\q≠bb/\q≠tb):=hd fun q hq=>by
       obtain⟨C,h6⟩:=own_blks HRO.o hq;have h7:=h6.lt;have h8:=own_base HRO.o q hq;refine⟨h8,h7,fun e=>?_,by omega⟩
       subst e;rcases HLV.o q (HOV.o.symm.trans hq) with h1|h1
       ·have:=(HVS.o q h1).2;omega
       ·have:=HPB.o.2.1;omega
      have HTB:Hd (tb∉v.ownBlock.toList):=hd fun hm=>(HVN.o tb (Option.mem_toList.1 hm)).2.2.2 rfl
      have HCB:Hd (bb∉v.ownBlock.toList):=hd fun hm=>(HVN.o bb (Option.mem_toList.1 hm)).2.2.1 rfl
      have HYL:=hd (rts_len O);obtain⟨i0,hi0,hz0,hz1,hz2⟩:=rtInfo
      have hn5:O.length<=60000:=by
       have h1:=congrArg List.length HOD.o;have h2:=HK9.o rfl
       have h3:(kL true (kL rd ((tchI env h count).map (rtOf no vs)))).length<=rdE h.val:=by
        cases rd
        ·simp[kL]
        ·simp[kL,tchI,rdT_len]
       rw[List.length_map,List.length_append] at h1;omega
      generalize hnt':O.length=nt at *;have HNT:=hd hnt';clear hnt';generalize hnews:rtL no VA k vc h.buf av true 0 count=news at *;have HNW:=hd hnews;clear hnews;generalize hts:O.flatMap rtC=ts at *;have HTS:=hd hts;clear hts;refine rgW 8 v.ownBlock.toList (fun p y=>v.ownBlock=some p.block/\∃q,p.off=nt*7+q/\news[q]? = some y) [(6,sCells w9.heap.size news),(7,sRowA B 118 7 nt (ts ++ news) (fun g=>v.ownBlock=some g\/w9.heap.size<=g))] ?_ ?_
      ·refine Stays.cons (sCells.stays fun b j u y hb hu hf=>?_) (Stays.cons (sRowA.stays fun g i x y _ hx hf=>?_) Stays.nil)
       ·have:=(HVN.o b hf.1).2.1;omega
       ·obtain⟨-,q,hq,hy⟩:=hf;simp only at hq;subst hq;rw[List.getElem?_append_right (by rw[HYL.o];omega),HYL.o,Nat.add_sub_cancel_left,hy] at hx;exact Option.some.inj hx
      simp only[List.take_succ_cons,List.take_zero,List.drop_succ_cons,List.drop_zero]
      repeat
       refine relAt_det rfl rfl ?_
       apply Exists.intro
       refine⟨fun wr nr hJ=>?_,?_⟩
       ·have qb:=(HBT.o.ext hJ.1 HTB.o).cell;have qbl:=(HBT.o.ext hJ.1 HTB.o).lt;have qc:=(HB9.o.ext hJ.1 HCB.o).cell;have qcl:=(HB9.o.ext hJ.1 HCB.o).lt;unfold btA at qc;clear hJ;(go_simp;try go_bits)
        first|rfl|exact⟨rfl,rfl⟩
       simp only[Act.put,List.setIfInBounds_toArray,List.set_cons_succ,List.set_cons_zero]
      refine rel_newL (sCells w9.heap.size news) rfl rfl (fun wr nr hJ hf=>?_) ?_
      ·refine⟨wr.heap.size,.cells (rtL no VA k vc h.buf av true 0 count).toArray 118,?_,Ext.size hJ.1,fun j u hu=>?_⟩
       ·refine exec_buildSlice rfl _ _ _ _ (.agg (rtL no VA k vc h.buf av true 0 count).toArray) ?_ ?_
        ·rfl
        ·exact rt_slice wr no VA k vc h.buf av true 0 count
       ·rw[(Blk.new wr 118 (rtL no VA k vc h.buf av true 0 count).toArray).cell j];rw[<-HNW.o] at hu;rw[<-hu];simp
      intro (b8:Nat);simp only[Act.put,List.setIfInBounds_toArray,List.set_cons_succ,List.set_cons_zero];refine rel_appL B b8 48 118 i0 _ 7 72 v nt 1 ts news (fun g=>v.ownBlock=some g\/w9.heap.size<=g) _ _ rfl rfl rfl (by kernel_rfl) hi0 hz0 hz1 hz2 rfl (by decide) rfl rfl (by rw[<-HNW.o];rfl) (fun u hu=>?_) (fun w' n' hJ hf=>?_) hB9 (fun g hg hb=>.inl (Option.mem_toList.2 hg)) (fun g hg=>hg.imp And.left id) (fun g q u hg hb hu=>⟨hg,q,rfl,hu⟩) ?_ ?_ ?_
      ·rw[<-HNW.o] at hu;unfold rtL at hu;simp only[List.mem_cons,List.not_mem_nil,or_false] at hu;rcases hu with rfl|rfl|rfl|rfl|rfl|rfl|rfl<;>rfl
      ·have h8:(sCells w9.heap.size news).V b8 w':=get_after hf 6 (by kernel_rfl)
       exact⟨own_rw HRO.o hJ.2 fun g i x y hg hx hy=>by
        obtain⟨-,q,hq,-⟩:=hy;have h1:=(List.getElem?_eq_some_iff.1 hx).1;simp only at hq;rw[HYL.o] at h1;omega,h8.2⟩
      ·unfold maxLen;omega
      ·omega
      intro u9;simp only[Act.put,List.setIfInBounds_toArray,List.set_cons_succ,List.set_cons_zero];refine relAt_nil (fun wz hJ hF=>?_)
      obtain⟨gz,cz⟩:=u9;have hz:(sRowA B 118 7 nt (ts ++ news) (fun g=>v.ownBlock=some g\/w9.heap.size<=g)).V (gz,cz) wz:=hF 7;have HOZ:Hd (wz.ownsRow B 118 7 (.slice (some ⟨gz,0,none⟩) (nt+1) cz) (nt+1) (ts ++ news)):=hd hz.1;have HGO:Hd (v.ownBlock=some gz\/w9.heap.size<=gz):=hd hz.2;have HEZ:=hd hJ.1;clear hF hJ hz;dsimp only[sRowA];have HBZ:=hd (HBT.o.ext HEZ.o HTB.o);have qb:=HBZ.o.cell;have qf:=HBZ.o.frozen;have qbl:=HBZ.o.lt;have HBF:=hd (HBZ.o.set_' 0 (.slice (some ⟨gz,0,none⟩) (nt+1) cz) #[.slice (some ⟨gz,0,none⟩) (nt+1) cz,.int .i64 (mk+1:Nat),.bool true,.int .i64 (count+1:Nat)] rfl);have HEF:=hd (Ext.setAt (b:=tb) (i:=0) (u:=.slice (some ⟨gz,0,none⟩) (nt+1) cz) (.inl (by simp)) (Ext.refl [tb] wz))
      have HGT:Hd (gz≠tb):=hd fun h=>by
       have:=own_base HOZ.o gz rfl;omega
      have HEE:Hd (Ext (tb :: v.ownBlock.toList) w9 (wz.setCell ⟨tb,0,none⟩ (.slice (some ⟨gz,0,none⟩) (nt+1) cz))):=hd ((HEZ.o.mono fun x hx=>.inl (List.mem_cons_of_mem _ hx)).step HEF.o fun x hx=>.inl (by rw[List.mem_singleton.1 hx];exact List.mem_cons_self ..));have HOF:=hd (own_ext HOZ.o HEF.o (fun k hk=>by cases hk;rw[List.mem_singleton];exact HGT.o));go_wp2_with fail
      generalize World.setCell wz _ _=wf at *
      have HRC:Hd (rtC ⟨⟨no,vs,h.buf,av,true,0,(count:Int)⟩,VA,vc⟩=news):=hd (by
       rw[<-HNW.o];simp only[rtC,HLN.o])
      have HNEW:=hd (TouQ.snoc (keep:=true) (many:=mk+1) (count:=count+1) (w:=w9) (w':=wf) (v:=v) (O:=O) (gz:=gz) (cz:=cz) ⟨⟨no,vs,h.buf,av,true,0,(count:Int)⟩,VA,vc⟩ htB hB9 (by rw[HNT.o,HTS.o];exact HRO.o) HNO.o HN9.o HEE.o (by rw[HNT.o];exact HBF.o) (by rw[HNT.o,HTS.o,HRC.o];exact HOF.o));have hwf:=HEE.o.size;refine bodyPost_end (results_none rfl _ _ _) rfl ⟨rfl,some gz,fun g hg=>?_,HEW9.o.step HEE.o fun x hx=>?_,hq,by omega,by omega,?_⟩
      ·cases hg
       rcases HGO.o with h1|h1
       ·exact(HVN2.o gz (HOV.o.symm.trans h1)).imp id fun h2=>by omega
       ·right;omega
      ·rcases List.mem_cons.1 hx with rfl|hx
       ·left;simp
       ·rcases HVN2.o x (HOV.o.symm.trans (Option.mem_toList.1 hx)) with h1|h1
        ·left;rw[h1];simp
        ·right;omega
      ·have h1:many+(kN rd (rdE h.val)+kN true 1)=mk+1:=by rw[<-hmk];simp[kN];omega
       rw[h1,HQC.o];have h2:D ++ kL true (kL rd ((tchI env h count).map (rtOf no vs)) ++ kL true [(⟨no,vs,h.buf,av,true,0,(count:Int)⟩:RtD)])=O.map RtO.d ++ [⟨no,vs,h.buf,av,true,0,(count:Int)⟩]:=by rw[HOD.o];simp[kL]
       rw[h2];exact HNEW.o
end Go.Proofs.YtfjdmoppfbddpaaGreatDoor
