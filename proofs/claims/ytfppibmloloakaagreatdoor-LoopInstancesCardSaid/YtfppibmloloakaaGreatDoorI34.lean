import Derived.Test.YtfppibmloloakaaGreatDoorI33
namespace Go.Proofs.YtfppibmloloakaaGreatDoor
open Go.RowKit Go.Proofs.Tryz
set_option linter.all false
set_option maxHeartbeats 64000000
def plA (h:SH)(no:Nat)(NA:Option Addr)(n nc:Nat):Array Value:=#[.int .i64 h.k,.string h.var,.int .i64 h.lo,.int .i64 h.hi,.int .i64 h.step,.bool h.vec,.slice h.cA h.conds.length h.cc,.slice h.A 0 h.cap,.int .i64 h.buf,.int .i64 h.at_.base,.slice h.at_.A h.at_.ts.length h.at_.cap,
 .int .i64 h.val.h.k,.int .i64 h.val.h.op,.int .i64 h.val.h.lo,.int .i64 h.val.h.hi,.int .i64 h.val.h.n,.int .i64 h.val.h.m,.int .i64 h.val.h.buf,.int .i64 h.val.h.at_.base,.slice h.val.h.at_.A h.val.h.at_.ts.length h.val.h.at_.cap,.slice h.val.h.A h.val.ks.length h.val.h.cap,.int .i64 no,.slice NA n nc]
theorem Akv (h:SH)(no:Nat)(NA:Option Addr)(n nc:Nat):(plA h no NA n nc)[8]? = some (.int .i64 h.buf)/\(plA h no NA n nc)[9]? = some (.int .i64 h.at_.base)/\(plA h no NA n nc)[10]? = some (.slice h.at_.A h.at_.ts.length h.at_.cap)/\(plA h no NA n nc)[21]? = some (.int .i64 no)/\(plA h no NA n nc)[22]? = some (.slice NA n nc)/\∀(j:Nat) (v:Value),(Ao h.val).toList[j]? = some v->(plA h no NA n nc)[11+j]? = some v:=
 ⟨rfl,rfl,rfl,rfl,rfl,fun j v hv=>by
  have h9:=(ils hv).1;have:j=0\/j=1\/j=2\/j=3\/j=4\/j=5\/j=6\/j=7\/j=8\/j=9:=by simp[Ao] at h9;omega
  rcases this with rfl|rfl|rfl|rfl|rfl|rfl|rfl|rfl|rfl|rfl<;>exact hv⟩
def btA (no:Nat)(vv:Value)(buf at_:Int)(wr:Bool)(inst:Nat):Array Value:=#[.int .i64 no,vv,.int .i64 buf,.int .i64 at_,.bool wr,.int .i64 0,.int .i64 inst]
def Tv (H:Nat):Bc:=⟨Nat,0,fun b=>.pointer (some ⟨b,0,none⟩),fun b w=>H<=b/\Blk w b 113 (rtA 0 none 0 0 0)⟩
theorem Tv.stays {H:Nat}:∀y w w',RH [] w w'->(Tv H).V y w->(Tv H).V y w':=fun _ w w' h k=>⟨k.1,Blk.ext k.2 h.1 jH⟩
def Ais (names:List ByteArray):Prop:=∀(i j:Nat) (x y:ByteArray),names[i]? = some x->names[j]? = some y->eqS x y=true->i=j
theorem Ey.extT {tb B hi many count:Nat}{keep:Bool}{D:List RtD}{V:Option Nat}{w w':World}(h:Ey tb B hi keep D many count V w){S:List Nat}(hE:Ext S w w')(hS:∀x∈S,x≠tb/\V≠some x/\∃C,Blk w x 113 C):Ey tb B hi keep D many count V w':=by
 obtain⟨h0,h1,v,O,h2,h3,h4,h5,h6⟩:=h
 exact⟨h0,nt h1 hE.size,v,O,h2,h3,h4.ext hE fun hm=>(hS _ hm).1 rfl,Ah h5 hE fun k hk hm=>(hS _ hm).2.1 (h2.symm.trans hk),fun x hx=>(h6 x hx).ext hE fun b C hb hb2 hC hm=>by
  obtain⟨D,hD⟩:=(hS _ hm).2.2;exact absurd (hD.type hC) (by decide)⟩
attribute [local irreducible] Bm
set_option maxRecDepth 100000 in
theorem Af2 (tb B hi mb nb no count U many nc:Nat)(keep rd wr:Bool)(NA:Option Addr)(names:List ByteArray)(vs:List Int)(h:SH)(w0:World)(D:List RtD)(V:Option Nat)(w:World)(hl:vs.length=names.length)(h8:vs.length<=8)(hvb:∀v∈vs,Bdd v)(hn8:∀x∈names,x.size<=8)(hdn:Ais names)(hw0:w0.heap.size<=tb)
  (hT:Ey tb B hi keep D many count V w) (hhi:hi<=w.heap.size) (hA:Jn w0 h.at_) (hX:Hf w0 h.val) (hE0:Ext [] w0 w) (haff:Cn names h.at_=0) (hval:Bw names nb h.val=0) (hfit:Ap h.val<=32) (hM:MpR w mb names vs U) (hN:Al w NA 1 sC names) (hk9:keep=true->D.length+rdE h.val+1<=50000) (hm9:many+rdE h.val+1<=1000000000000000) (hc9:count<=1000000000) :
  Calls prog 134 #[.pointer (some tb),.agg (plA h no NA names.length nc),.map (some mb),.bool rd,.bool wr] w fun e w'=>∃V' hi',e=.returned (.tuple #[])/\Jp w.heap.size V V'/\Ext (tb :: V.toList) w w'/\hi<=hi'/\hi'<=w'.heap.size/\
   Ey tb B hi' keep (D ++ kL keep (kL rd ((Kg (names.zip vs) h count).map (Ho no vs)) ++ kL wr [Ho no vs (Td (names.zip vs) h count)])) (many+(kN rd (rdE h.val)+kN wr 1)) (count+1) V' w':=by
 have HT:=hd hT;have HM:=hd hM;have HN:=hd hN;have ax:=hd hE0;have bd:=hd hval;have cE:=hd hX;have cF:=hd hvb;have bP:=hd hn8;have bQ:=hd (Aml hl hdn);have HL:=hd hl;have bR:=hd hk9;have be:=hd hfit;have bf:=hd (fun W (hW:Ext [] w0 W) hm=>Xw h.at_ mb U names vs W (hA.keep hW) haff hn8 hm);obtain⟨p8,p9,dy,dz,dA,cw⟩:=Akv h no NA names.length nc;have bh:=hd cw;have dj:=hT.2.1;have cG:=hT.1
 have bS:Hd (∀g,V=some g->B<=g/\g<w.heap.size):=hd fun g hg=>by
  obtain⟨h1,C,h2⟩:=HT.o.own hg;exact⟨h1,h2.lt⟩
 have cH:names.length<=8:=by omega
 clear hT hM hN hE0 hval hX hvb hn8 hdn hl hk9 hA haff hfit cw;generalize aU:names.zip vs=env at *;have ay:=hd aU;clear aU;have ai:=hd ((jF [] w).alloc (.cells (plA h no NA names.length nc) 229));have aW:=hd (jK w 229 (plA h no NA names.length nc));have dk:(w.alloc (.cells (plA h no NA names.length nc) 229)).heap.size=w.heap.size+1:=Ad _ _;generalize plA h no NA names.length nc=arr at *;generalize cD:names.length=nn at *;have bT:=hd cD;clear cD;go_enter func134,ntmps134
 go_upto_region 1 with fail
 generalize World.alloc w _=w1 at *;generalize dC:w.heap.size=s at *;have bi:=hd (HT.o.ext0 ai.o);have bj:=hd (HM.o.ext ai.o (by simp));have bU:=hd (HN.o.keep ai.o);have az:=hd (ax.o.trans ai.o)
 have aA:Hd (∃v,Blk w1 tb 163 #[v,many,.bool keep,count]):=hd (by
  obtain⟨-,-,v,O,-,-,hB,-,-⟩:=bi.o;exact⟨v,hB⟩)
 obtain⟨vO,cx⟩:=aA.o;have a7:=hd cx;clear cx aA HT HM HN ax;have bk:tb<s:=by omega
 refine rgH 8 [(7,Tv w1.heap.size)] ?_ ?_
 ·refine Am.cons Tv.stays Am.nil
 simp only[TK]
 repeat(refine dE (fun wr nr hJ=>by(have qx:=(aW.o.ext hJ.1 (by simp)).cell;have aB:=(aW.o.ext hJ.1 (by simp)).lt;have qt:=(a7.o.ext hJ.1 (by simp)).cell;have aj:=(a7.o.ext hJ.1 (by simp)).lt);clear hJ;exact CL) ?_;simp only[PT])
 refine Fz (Tv w1.heap.size) rfl rfl (fun wr nr hJ hf=>?_) ?_
 ·refine⟨wr.heap.size,.cells (rtA 0 none 0 0 0) 113,?_,hJ.1.size,jK _ _ _⟩
  have hz:=Aeg wr;(go_simp;try go_bits)
  rfl
 intro (bb:Nat);simp only[PT]
 repeat(refine dE (fun wr nr hJ=>by clear hJ;exact CL) ?_;simp only[PT])
 refine Ak (fun w2 hJ hF=>?_)
 have aX:Hd (w1.heap.size<=bb/\Blk w2 bb 113 (rtA 0 none 0 0 0)):=hd (hF 7);have ak:=hd hJ.1;clear hF hJ;dsimp only[Tv];have dl:=aX.o.1;have aC:=hd (ai.o.trans ak.o)
 go_upto_region 2 with(
  refine Ba rfl 113 _ _ rfl bb (btA no (.slice none 0 0) 0 0 false count) (rtA 0 none 0 0 0) 113 rfl rfl aX.o.2 (show _=some (btA no (.slice none 0 0) 0 0 false count).size from Aiq) rfl (by simp[btA];repeat(first|exact rfl|refine⟨rfl,?_⟩)) ?_
  intro w3 hB3 hE3;have aD:=hd hB3;have aq:=hd hE3;clear hB3 hE3)
 simp only[PT];generalize dD:w3.heap.size=H3 at *;have dm:w1.heap.size<=H3:=by have h1:=ak.o.size;have h2:=aq.o.size;omega
 have cI:bb<H3:=by have:=aD.o.lt;omega
 have cJ:Hd (Ext [] w w3):=hd (Cx aC.o aq.o fun x hx=>by rw[jA.1 hx];omega);have a8:=hd ((aW.o.ext ak.o (by simp)).ext aq.o (by rw[jA];omega));have aY:=hd ((bj.o.ext ak.o (by simp)).ext aq.o (by rw[jA];exact(bj.o.ext ak.o (by simp)).apart aX.o.2));have al:Hd (Ext [bb] w1 w3):=hd (ak.o.nil.trans aq.o);obtain⟨mm,cy,-,df,aT⟩:=aY.o;have bl:=hd cy
 have bV:Hd (∀i nm x,names[i]? = some nm->vs[i]? = some x->lk mm nm=x):=hd fun i nm x hi hx=>by
  rw[aT nm (List.any_eq_true.2 ⟨nm,ilm hi,Om nm⟩),ay.o];exact bQ.o i nm x hi hx
 clear cy df aT;have qx:=a8.o.cell;have aB:=a8.o.lt;go_wp2_with fail
 clear qx aB;go_loopw [24] (fun i wr=>∃(k:Nat) (vv:Value),i=.int .i64 k/\k<=nn/\Hd (Ext [bb] w3 wr)/\Hd (Blk wr bb 113 (btA no vv 0 0 false count))/\Hd (wr.ownsRow H3 3 1 vv k ((vs.take k).map (Value.int .i64)))) (fun i _=>(nn-intOf i).toNat)
 case atStart=>exact⟨0,.slice none 0 0,rfl,jQ _,hd (jF _ _),aD,hd (by simpa using Ca w3 H3 3 1)⟩
 case round=>
  obtain⟨k,vv,rfl,hk,HE,b7,ag⟩:=hrel;rename World=>wq
  by_cases dG:k<nn
  ·
   have cK:(k:Int)<(nn:Int):=by omega
   obtain⟨b,nm,rfl,hx,hc⟩:=bU.o.at (i:=k) (by have:=bT.o;omega);have bm:w1.cell? ⟨b,k,none⟩=some (.string nm):=by have:=hc 0 _ rfl;rw[Nat.mul_one,Nat.add_zero] at this;exact this
   have cL:=jB w1 _ bm;simp only at cL;have qn:wq.cell? ⟨b,k,none⟩=some (.string nm):=HE.o.held (al.o.held bm (by rw[jA];simp only;omega)) (by rw[jA];simp only;omega);have cM:=jB wq _ qn;simp only at cM;obtain⟨x,bK⟩:∃x,vs[k]? = some x:=⟨_,jJ (by have:=HL.o;omega)⟩;have aE:=bV.o k nm x hx bK;have cN:=bP.o nm (ilm hx);have cO:=(bl.o.ext HE.o (by rw[jA];exact bl.o.apart aD.o)).look (s:=nm) (by omega);rw[aE] at cO;have cP:=hd bK;obtain⟨i0,bL,bM,bN,bO⟩:=Ih;have qb:=b7.o.cell;unfold btA at qb;have aa:=b7.o.lt;have cQ:=hd (jK wq 3 #[x]);have bW:H3<=wq.heap.size:=by have:=HE.o.size;omega
   clear hx hc bm bK aE
   go_wp2_with (
    refine wpList_append_lies _ rfl _ _ 22 rfl H3 3 i0 _ 1 8 underlying22 bL bM bN bO rfl (by decide) vv k ((vs.take k).map (Value.int .i64)) rfl ?c0 ⟨wq.heap.size,0,none⟩ 1 1 [.int .i64 x] rfl rfl ?c1 ?c2 (by omega) ?c3 ?c4 ?c5 _ rfl ?_
    case c0=>exact Ah ag.o ((jF [] wq).alloc _) (by simp)
    case c1=>exact Ig _ _ _ (cQ.o.cell 0)
    case c2=>intro u hu;rw[jA.1 hu];rfl
    case c3=>unfold maxLen;omega
    case c4=>omega
    case c5=>exact nt bW ((jF [] wq).alloc _).size
    intro g8 c8 w8 ho8 hg8 hi8 ha8;have bX:=hd ho8;have ab:Hd (Ext vv.ownBlock.toList wq w8):=hd (((jF _ wq).alloc _).grown hg8 fun q hq=>.inl (jC.2 hq));have a2:=hd (b7.o.ext ab.o fun hm=>by have:=Ae ag.o bb (jC.1 hm);omega);have cR:=a2.o.cell;have dn:=a2.o.frozen;have cS:=a2.o.lt;unfold btA at cR;clear ho8 hg8 hi8 ha8 qb aa)
   have bn:=hd (a2.o.set_' 1 (.slice (some g8) (k+1) c8) (btA no (.slice (some g8) (k+1) c8) 0 0 false count) rfl);have aF:=hd (jL (b:=bb) (i:=1) (u:=.slice (some g8) (k+1) c8) (.inl (by simp)) (jF [bb] w8));have cT:Hd (vs.take (k+1)=vs.take k ++ [x]):=hd (by rw[List.take_add_one,cP.o];rfl);have cU:=Ae bX.o g8 rfl
   have bo:Hd ((w8.setCell ⟨bb,1,none⟩ (.slice (some g8) (k+1) c8)).ownsRow H3 3 1 (.slice (some g8) (k+1) c8) (k+1) ((vs.take (k+1)).map (Value.int .i64))):=hd (by
    rw[cT.o,List.map_append];exact Ah bX.o aF.o fun q hq=>by cases hq;rw[jA];show g8≠bb;omega)
   have cV:Hd (Ext [bb] w3 (w8.setCell ⟨bb,1,none⟩ (.slice (some g8) (k+1) c8))):=hd ((HE.o.step ab.o fun q hq=>.inr (by have:=Ae ag.o q (jC.1 hq);omega)).trans aF.o);go_roundw
   case rel=>exact⟨k+1,_,by go_num,by omega,cV,bn,bo⟩
   case measure=>simp[intOf];omega
  ·have cW:k=nn:=by omega
   subst cW;have cX:Hd (vs.take k=vs):=hd (List.take_of_length_le (by have:=HL.o;omega));rw[cX.o] at ag;obtain⟨VA,vc,rfl,-,cB⟩:=Be ag.o;have aG:Hd (Ext [bb] w1 wq):=hd (al.o.trans HE.o);have bY:Hd (Ext [] w wq):=hd (Cx ai.o aG.o fun x hx=>by rw[jA.1 hx];omega);have aH:Hd (Ext [] w0 wq):=hd (Cx az.o aG.o fun x hx=>by rw[jA.1 hx];omega);have bW:H3<=wq.heap.size:=by have:=HE.o.size;omega
   have bZ:Hd (Ia B wq.heap.size VA vs wq):=hd (by
    by_cases h0:vs=[]
    ·exact .inl h0
    ·have cY:0<k:=by have h1:=HL.o;have:=List.length_pos_iff.2 h0;omega
     obtain⟨g,hg,h1,h2⟩:=cB cY;subst hg;obtain⟨C,hC⟩:=Ck ag.o (g:=g) rfl;refine .inr ⟨g,C,rfl,by omega,h2,hC,fun i x hx=>?_⟩
     rw[<-hC.cell];exact Cz ag.o rfl (by rw[List.getElem?_map,hx];rfl))
   have c6:Hd (Ey tb B wq.heap.size keep D many count V wq):=hd ((bi.o.ext aG.o fun x hx=>by
    rw[jA.1 hx];exact⟨by omega,fun hv=>by have:=(bS.o bb hv).2;omega,.inr (by omega)⟩).more (by omega))
   have a1:=hd (a7.o.ext aG.o (by rw[jA];omega));have c7:=hd (a8.o.ext HE.o (by rw[jA];omega));have bp:=hd (aY.o.ext HE.o (by rw[jA];exact aY.o.apart aD.o));have c9:Hd (vs.length=k):=HL;clear cB ag bi a7 aW a8 bj aY bU az aD aq HE al aG ai aC bl bV bQ ak aX;generalize dh:wq.heap.size=hq at *;have qt:=a1.o.cell;have bq:=a1.o.frozen;have aj:=a1.o.lt;have ac:=hd (jL (b:=tb) (i:=3) (u:=.int .i64 ((count:Int)+1)) (.inl (by simp)) (jF [tb] wq));have ca:Hd (Ey tb B hq keep D many (count+1) V (wq.setCell ⟨tb,3,none⟩ (.int .i64 ((count:Int)+1)))):=hd (c6.o.set ac.o fun v hb=>hb.set_' 3 _ _ (by simp));have br:=hd (a1.o.set_' 3 (.int .i64 ((count:Int)+1)) #[vO,many,.bool keep,.int .i64 ((count:Int)+1)] rfl);have bt:mb≠tb:=bp.o.apart a1.o;have bu:bb≠tb:=by omega
   have cb:s≠tb:=by omega
   have ce:=hd (bp.o.ext ac.o (by rw[jA];exact bt));have bv:=hd (b7.o.ext ac.o (by rw[jA];exact bu));have bx:=hd (c7.o.ext ac.o (by rw[jA];exact cb));have cf:Hd (Ia B hq VA vs (wq.setCell ⟨tb,3,none⟩ (.int .i64 ((count:Int)+1)))):=hd (bZ.o.ext ac.o fun b C hb _ _ hm=>by rw[jA.1 hm] at hb;omega);have cg:Hd (Ext (tb :: V.toList) w (wq.setCell ⟨tb,3,none⟩ (.int .i64 ((count:Int)+1)))):=hd (bY.o.nil.step ac.o fun x hx=>.inl (by rw[jA.1 hx];simp));have am:Hd (Ext [] w0 (wq.setCell ⟨tb,3,none⟩ (.int .i64 ((count:Int)+1)))):=hd (Cx aH.o ac.o fun x hx=>by rw[jA.1 hx];exact hw0);have cZ:=ac.o.size;rw[dh] at cZ;go_upto_region 8 with fail
   generalize World.setCell wq _ _=w4 at *;clear qt bq aj c6 a1 c7 bp bZ ac bY aH;have ae:=hd ((jF [] w4).alloc (.cells #[(1:Int)] 3));have bz:=hd (jK w4 3 #[(1:Int)]);have dp:(w4.alloc (.cells #[(1:Int)] 3)).heap.size=w4.heap.size+1:=Ad _ _;have a6:Hd (s<w4.heap.size/\bb<w4.heap.size/\tb<w4.heap.size/\hq<=w4.heap.size/\w0.heap.size<=w4.heap.size):=hd ⟨bx.o.lt,bv.o.lt,by omega,by omega,am.o.size⟩;go_upto_region 9 with fail
   have aI:=hd (ca.o.ext0 ae.o);have aJ:=hd (ce.o.ext ae.o (by simp));have aZ:=hd (bv.o.ext ae.o (by simp));have b0:=hd (bx.o.ext ae.o (by simp));have bA:=hd (cf.o.ext ae.o (by simp));have aK:Hd (Ext (tb :: V.toList) w (w4.alloc (.cells #[(1:Int)] 3))):=hd (cg.o.trans ae.o.nil);have an:=hd (am.o.trans ae.o);generalize World.alloc w4 _=w5 at *;generalize dF:w4.heap.size=pp at *;clear ca ce bv bx cf cg am br;have b1:=bS;go_upto_if 44 with fail
   have dq:=a6.o.1;go_cut [] (fun wx=>∃V2,Hd (Jp pp V V2)/\Hd (Ext (tb :: pp :: V.toList) w5 wx)/\Hd (Ey tb B hq keep (D ++ kL keep (kL rd ((Kg env h count).map (Ho no vs)))) (many+kN rd (rdE h.val)) (count+1) V2 wx))
   case first=>
    cases rd
    ·go_wp2_with fail
     go_meet
     exact⟨V,hd (Jp.refl _ _),hd (jF _ _),hd (by have:=aI.o;simpa[kL,kN] using this)⟩
    ·have b2:=hd (Air tb B hq mb pp nb no count (count+1) U keep VA vc names vs w0 (HL.o.trans bT.o.symm) h8 cF.o bP.o hw0 a6.o.2.2.2.1 a6.o.2.2.2.2 h.val bd.o (by have:=be.o;omega) D many 0 V w5 aI.o cE.o an.o aJ.o bz.o bA.o (fun hk=>by have h1:=bR.o hk;exact⟨by omega,by omega⟩) (by omega));rw[ay.o,Cv] at b2;have qx:=b0.o.cell;have aB:=b0.o.lt;have d1:Hd (∀(j:Nat) (v:Value),(Ao h.val).toList[j]? = some v->w5.cell? ⟨s,11+j,none⟩=some v):=hd fun j v hv=>by rw[qx];exact bh.o j v hv
     have qb:=aZ.o.cell;unfold btA at qb;have aa:=aZ.o.lt;clear qx
     go_wp2_with (first
      | refine Ac rfl 41 _ rfl s 11 rfl (Ao h.val) d1.o _ underlying41 rfl Co ?_)
     have ch:rtA no VA vs.length vc count=#[.int .i64 no,.slice VA k vc,.int .i64 0,.int .i64 0,.bool false,.int .i64 0,.int .i64 count]:=by rw[c9.o];rfl
     rw[ch] at b2;refine b2.o.mono ?_
     rintro r w7 ⟨V4,rfl,hL,hE,hT,hP⟩;have d2:Hd (Jp pp V V4):=hd fun g hg=>(hL g hg).imp id fun h1=>by omega
     have d3:=hd hE;have b3:=hd hT;clear hL hE hT hP b2 qb aa ch;go_wp2_with fail
     go_meet
     exact⟨V4,d2,d3,by simpa[kL,kN,Kg] using b3⟩
   case rest=>
    obtain⟨V2,ba,ap,ad⟩:=hcut;rename World=>w6
    have aL:Hd (Ext (tb :: V.toList) w w6):=hd (aK.o.step ap.o fun x hx=>by
     rcases jE.1 hx with rfl|hx
     ·left;simp
     ·rcases jE.1 hx with rfl|hx
      ·right;have:=a6.o.1;omega
      ·left;exact jI _ hx)
    have h6:w5.heap.size<=w6.heap.size:=ap.o.size;cases wr
    ·go_wp2_with fail
     refine bodyPost_end (results_none rfl _ _ _) rfl ⟨V2,hq,rfl,fun g hg=>(ba.o g hg).imp id fun h1=>by omega,aL.o,by omega,by omega,?_⟩
     have:=ad.o;simpa[kL,kN] using this
    ·have aM:Hd (∀b,s<=b->b≠pp->b∉tb :: pp :: V.toList):=hd fun b hb hb2 hm=>by
      rcases jE.1 hm with h1|hm
      ·omega
      ·rcases jE.1 hm with h1|hm
       ·exact hb2 h1
       ·have:=(b1.o b (jC.1 hm)).2;omega
     have ci:=hd (b0.o.ext ap.o (aM.o s (jD s) (by have:=a6.o.1;omega)));have cj:=hd (aZ.o.ext ap.o (aM.o bb (by omega) (by have:=a6.o.2.1;omega)))
     have ck:=hd (aJ.o.ext ap.o fun hm=>by
      rcases jE.1 hm with h1|hm
      ·exact bt h1
      ·rcases jE.1 hm with h1|hm
       ·exact aJ.o.apart bz.o h1
       ·obtain⟨-,C,hC⟩:=aI.o.own (jC.1 hm);exact aJ.o.apart hC rfl)
     have cl:Hd (Ia B hq VA vs w6):=hd (bA.o.ext ap.o fun b C hb hb2 hC hm=>by
      rcases jE.1 hm with h1|hm
      ·omega
      ·rcases jE.1 hm with h1|hm
       ·have:=a6.o.2.2.2.1;omega
       ·obtain⟨-,C',dg⟩:=aI.o.own (jC.1 hm);exact absurd (dg.type hC) (by decide))
     have aN:Hd (Ext [] w0 w6):=hd (Cx an.o ap.o fun x hx=>by
      rcases jE.1 hx with rfl|hx
      ·exact hw0
      ·rcases jE.1 hx with rfl|hx
       ·have:=a6.o.2.2.2.2;omega
       ·have:=(b1.o x (jC.1 hx)).1;omega)
     have d4:pp<w6.heap.size:=by omega
     have d5:=a6;clear b0 aZ aJ bA an aI bz ae aK;obtain⟨-,dB,v,O,hv,hO,hB,hR,bc⟩:=ad.o;have qt:=hB.cell;have bq:=hB.frozen;have aj:=hB.lt;clear hv hO hB hR bc;have af:=hd (jL (b:=tb) (i:=1) (u:=.int .i64 ((many+kN rd (rdE h.val):Nat)+1)) (.inl (by simp)) (jF [tb] w6));have b3:Hd (Ey tb B hq keep (D ++ kL keep (kL rd ((Kg env h count).map (Ho no vs)))) (many+kN rd (rdE h.val)+1) (count+1) V2 (w6.setCell ⟨tb,1,none⟩ (.int .i64 ((many+kN rd (rdE h.val):Nat)+1)))):=hd (ad.o.set af.o fun v hb=>hb.set_' 1 _ _ (by simp));have au:=hd (ci.o.ext af.o (by rw[jA];exact cb));have aw:=hd (cj.o.ext af.o (by rw[jA];exact bu));have cm:=hd (ck.o.ext af.o (by rw[jA];exact bt));have cn:Hd (Ia B hq VA vs (w6.setCell ⟨tb,1,none⟩ (.int .i64 ((many+kN rd (rdE h.val):Nat)+1)))):=hd (cl.o.ext af.o fun b C hb _ _ hm=>by rw[jA.1 hm] at hb;omega);have aO:Hd (Ext [] w0 (w6.setCell ⟨tb,1,none⟩ (.int .i64 ((many+kN rd (rdE h.val):Nat)+1)))):=hd (Cx aN.o af.o fun x hx=>by rw[jA.1 hx];exact hw0);have aP:Hd (Ext (tb :: V.toList) w (w6.setCell ⟨tb,1,none⟩ (.int .i64 ((many+kN rd (rdE h.val):Nat)+1)))):=hd (aL.o.step af.o fun x hx=>.inl (by rw[jA.1 hx];simp));have dr:=af.o.size;have cK:kN rd (rdE h.val)<=rdE h.val:=by unfold kN;split<;>omega
     generalize aT:many+kN rd (rdE h.val)=mk at *;go_upto_region 13 with fail
     generalize World.setCell w6 _ _=w7 at *;clear qt bq aj ci cj ck cl aN ad;generalize di:evA env h.at_=av at *;have d6:=au.o.cell;refine rgH 9 [(7,Dg (.int .i64 av))] ?_ ?_
     ·refine Am.cons Dg.stays Am.nil
     simp only[TK];clear d6
     repeat(refine dE (fun wr nr hJ=>by(have qx:=(au.o.ext hJ.1 (by simp)).cell;have aB:=(au.o.ext hJ.1 (by simp)).lt;have qb:=(aw.o.ext hJ.1 (by simp)).cell;have aa:=(aw.o.ext hJ.1 (by simp)).lt);clear hJ;exact CL) ?_;simp only[PT])
     refine Re (Dg (.int .i64 av)) rfl rfl ?_ ?_
     ·refine EC fun wr n hJ hf=>?_
      refine(bf.o wr (aO.o.trans hJ.1) (cm.o.ext hJ.1 (by simp))).mono ?_
      rintro e w' ⟨rfl,hE⟩;exact⟨(),rfl,trivial,hE⟩
     rintro⟨⟩;simp only[PT]
     repeat(refine dE (fun wr nr hJ=>by(have qx:=(au.o.ext hJ.1 (by simp)).cell;have aB:=(au.o.ext hJ.1 (by simp)).lt;have qb:=(aw.o.ext hJ.1 (by simp)).cell;have aa:=(aw.o.ext hJ.1 (by simp)).lt);clear hJ;exact CL) ?_;simp only[PT])
     refine Ak (fun w8 hJ hF=>?_)
     have ab:=hd hJ.1;clear hF hJ;dsimp only[Dg];have co:=hd (b3.o.ext0 ab.o);have a2:=hd (aw.o.ext ab.o (by simp));have HN8':=hd (cn.o.ext ab.o (by simp));have aQ:Hd (Ext (tb :: V.toList) w w8):=hd (aP.o.trans ab.o.nil);have dt:=ab.o.size;have qb:=a2.o.cell;unfold btA at qb;have d7:=a2.o.frozen;have aa:=a2.o.lt;have cp:=hd (((a2.o.set_' 2 h.buf (btA no (.slice VA k vc) h.buf 0 false count) rfl).set_' 3 av (btA no (.slice VA k vc) h.buf av false count) rfl).set_' 4 (.bool true) (btA no (.slice VA k vc) h.buf av true count) rfl);have aR:Hd (Ext [bb] w8 (((w8.setCell ⟨bb,2,none⟩ h.buf).setCell ⟨bb,3,none⟩ av).setCell ⟨bb,4,none⟩ (.bool true))):=hd (((jL (.inl (by simp)) (jF [bb] w8)).trans (jL (.inl (by simp)) (jF [bb] _))).trans (jL (.inl (by simp)) (jF [bb] _)));go_upto_region 14 with fail
     generalize World.setCell (World.setCell (World.setCell w8 _ _) _ _) _ _=w9 at *
     have bB:Hd (Ey tb B hq keep (D ++ kL keep (kL rd ((Kg env h count).map (Ho no vs)))) (mk+1) (count+1) V2 w9):=hd (co.o.extT aR.o fun x hx=>by
      rw[jA.1 hx]
      exact⟨bu,fun hv=>by
       have h2:=a6.o.2.1;rcases ba.o bb hv with h1|h1
       ·have:=(b1.o bb h1).2;omega
       ·omega,_,a2.o⟩)
     have d8:Hd (Ia B hq VA vs w9):=hd (HN8'.o.ext aR.o fun b C hb hb2 hC hm=>by
      rw[jA.1 hm] at hC;exact absurd (hC.type a2.o) (by decide))
     have aS:Hd (Ext (tb :: V.toList) w w9):=hd (aQ.o.step aR.o fun x hx=>.inr (by rw[jA.1 hx];omega));have du:=aR.o.size;have d9:Hd (Ho no vs (Td env h count)=⟨no,vs,h.buf,av,true,0,(count:Int)⟩):=hd (by rw[<-di];rfl);have ao:Hd (∀x,V2=some x->V=some x\/s<=x):=hd fun x hx=>(ba.o x hx).imp id fun h1=>by omega
     clear qb d7 aa a2 HN8' aQ co ab aR aw cn aP b3 au cm aO;cases keep
     ·obtain⟨-,-,v,O,-,-,hB,-,-⟩:=bB.o;have qt:=hB.cell;have aj:=hB.lt;clear hB;go_wp2_with fail
      refine bodyPost_end (results_none rfl _ _ _) rfl ⟨V2,hq,rfl,fun g hg=>(ao.o g hg).imp id fun h1=>by omega,aS.o,by omega,by omega,?_⟩
      have h1:many+(kN rd (rdE h.val)+kN true 1)=mk+1:=by rw[<-aT];simp[kN];omega
      rw[h1];have:=bB.o;simpa[kL] using this
     ·obtain⟨-,cC,v,O,hv,hO,hB,hR,bc⟩:=bB.o;have bC:=hd hv;have cq:=hd hO;have bD:=hd hB;have b4:=hd hR;have da:=hd bc;have qt:=hB.cell;have aj:=hB.lt;clear hv hO hB hR bc;go_upto_region 15 with fail
      clear qt aj
      have bE:Hd (∀q,v.ownBlock=some q->B<=q/\q<w9.heap.size/\q≠bb/\q≠tb):=hd fun q hq=>by
       obtain⟨C,h6⟩:=Ck b4.o hq;have h7:=h6.lt;have h8:=Ae b4.o q hq;refine⟨h8,h7,fun e=>?_,by omega⟩
       subst e;rcases ba.o q (bC.o.symm.trans hq) with h1|h1
       ·have:=(b1.o q h1).2;omega
       ·have:=a6.o.2.1;omega
      have bF:Hd (tb∉v.ownBlock.toList):=hd fun hm=>(bE.o tb (jC.1 hm)).2.2.2 rfl
      have cr:Hd (bb∉v.ownBlock.toList):=hd fun hm=>(bE.o bb (jC.1 hm)).2.2.1 rfl
      have bG:=hd (Aef O);obtain⟨i0,bL,bM,bN,bO⟩:=Acw
      have dv:O.length<=60000:=by
       have h1:=congrArg List.length cq.o;have h2:=bR.o rfl
       have h3:(kL true (kL rd ((Kg env h count).map (Ho no vs)))).length<=rdE h.val:=by
        cases rd
        ·simp[kL]
        ·simp[kL,Kg,Nk]
       rw[List.length_map,jG] at h1;omega
      generalize aV:O.length=nt at *;have bH:=hd aV;clear aV;generalize ah:rtL no VA k vc h.buf av true 0 count=news at *;have b5:=hd ah;clear ah;generalize bk:O.flatMap rtC=ts at *;have ct:=hd bk;clear bk;refine rgW 8 v.ownBlock.toList (fun p y=>v.ownBlock=some p.block/\∃q,p.off=nt*7+q/\news[q]? = some y) [(6,Ar w9.heap.size news),(7,Bi B 113 7 nt (ts ++ news) (fun g=>v.ownBlock=some g\/w9.heap.size<=g))] ?_ ?_
      ·refine Am.cons (Ar.stays fun b j u y hb hu hf=>?_) (Am.cons (Bi.stays fun g i x y _ hx hf=>?_) Am.nil)
       ·have:=(bE.o b hf.1).2.1;omega
       ·obtain⟨-,q,hq,hy⟩:=hf;simp only at hq;subst hq;rw[jM (by rw[bG.o];omega),bG.o,Nat.add_sub_cancel_left,hy] at hx;exact Option.some.inj hx
      simp only[TK]
      repeat(refine dE (fun wr nr hJ=>by(have qb:=(bD.o.ext hJ.1 bF.o).cell;have aa:=(bD.o.ext hJ.1 bF.o).lt;have qc:=(cp.o.ext hJ.1 cr.o).cell;have dw:=(cp.o.ext hJ.1 cr.o).lt;unfold btA at qc);clear hJ;exact CL) ?_;simp only[PT])
      refine Dw (Ar w9.heap.size news) rfl rfl (fun wr nr hJ hf=>?_) ?_
      ·refine⟨wr.heap.size,.cells (rtL no VA k vc h.buf av true 0 count).toArray 113,?_,Ext.size hJ.1,fun j u hu=>?_⟩
       ·refine As rfl _ _ _ _ (.agg (rtL no VA k vc h.buf av true 0 count).toArray) ?_ ?_
        ·rfl
        ·exact Aap wr no VA k vc h.buf av true 0 count
       ·rw[(jK wr 113 (rtL no VA k vc h.buf av true 0 count).toArray).cell j];rw[<-b5.o] at hu;rw[<-hu];simp
      intro (b8:Nat);simp only[PT];refine Ji B b8 48 113 i0 _ 7 72 v nt 1 ts news (fun g=>v.ownBlock=some g\/w9.heap.size<=g) _ _ rfl rfl rfl (by kernel_rfl) bL bM bN bO rfl (by decide) rfl rfl (by rw[<-b5.o];rfl) (fun u hu=>?_) (fun w' n' hJ hf=>?_) cC (fun g hg hb=>.inl (jC.2 hg)) (fun g hg=>hg.imp And.left id) (fun g q u hg hb hu=>⟨hg,q,rfl,hu⟩) ?_ ?_ ?_
      ·rw[<-b5.o] at hu;unfold rtL at hu;simp only[jE,jH,or_false] at hu;rcases hu with rfl|rfl|rfl|rfl|rfl|rfl|rfl<;>rfl
      ·have h8:(Ar w9.heap.size news).V b8 w':=Bg hf 6 (by kernel_rfl)
       exact⟨Gw b4.o hJ.2 fun g i x y hg hx hy=>by
        obtain⟨-,q,hq,-⟩:=hy;have h1:=(ils hx).1;simp only at hq;rw[bG.o] at h1;omega,h8.2⟩
      ·unfold maxLen;omega
      ·omega
      intro u9;simp only[PT];refine Ak (fun wz hJ hF=>?_)
      obtain⟨gz,cz⟩:=u9;have hz:(Bi B 113 7 nt (ts ++ news) (fun g=>v.ownBlock=some g\/w9.heap.size<=g)).V (gz,cz) wz:=hF 7;have cu:Hd (wz.ownsRow B 113 7 (.slice (some gz) (nt+1) cz) (nt+1) (ts ++ news)):=hd hz.1;have db:Hd (v.ownBlock=some gz\/w9.heap.size<=gz):=hd hz.2;have cv:=hd hJ.1;clear hF hJ hz;dsimp only[Bi];have b6:=hd (bD.o.ext cv.o bF.o);have qb:=b6.o.cell;have qf:=b6.o.frozen;have aa:=b6.o.lt;have bn:=hd (b6.o.set_' 0 (.slice (some gz) (nt+1) cz) #[.slice (some gz) (nt+1) cz,(mk+1:Nat),.bool true,(count+1:Nat)] rfl);have aF:=hd (jL (b:=tb) (i:=0) (u:=.slice (some gz) (nt+1) cz) (.inl (by simp)) (jF [tb] wz))
      have dc:Hd (gz≠tb):=hd fun h=>by
       have:=Ae cu.o gz rfl;omega
      have bI:Hd (Ext (tb :: v.ownBlock.toList) w9 (wz.setCell ⟨tb,0,none⟩ (.slice (some gz) (nt+1) cz))):=hd ((cv.o.mono fun x hx=>.inl (jI _ hx)).step aF.o fun x hx=>.inl (by rw[jA.1 hx];exact jO ..));have bo:=hd (Ah cu.o aF.o (fun k hk=>by cases hk;rw[jA];exact dc.o));go_wp2_with fail
      generalize World.setCell wz _ _=wf at *
      have de:Hd (rtC ⟨⟨no,vs,h.buf,av,true,0,(count:Int)⟩,VA,vc⟩=news):=hd (by
       rw[<-b5.o];simp only[rtC,c9.o])
      have bJ:=hd (Ey.snoc (keep:=true) (many:=mk+1) (count:=count+1) (w:=w9) (w':=wf) (v:=v) (O:=O) (gz:=gz) (cz:=cz) ⟨⟨no,vs,h.buf,av,true,0,(count:Int)⟩,VA,vc⟩ cG cC (by rw[bH.o,ct.o];exact b4.o) da.o d8.o bI.o (by rw[bH.o];exact bn.o) (by rw[bH.o,ct.o,de.o];exact bo.o));have dx:=bI.o.size;refine bodyPost_end (results_none rfl _ _ _) rfl ⟨rfl,some gz,fun g hg=>?_,aS.o.step bI.o fun x hx=>?_,hq,by omega,by omega,?_⟩
      ·cases hg
       rcases db.o with h1|h1
       ·exact(ao.o gz (bC.o.symm.trans h1)).imp id fun h2=>by omega
       ·right;omega
      ·rcases jE.1 hx with rfl|hx
       ·left;simp
       ·rcases ao.o x (bC.o.symm.trans (jC.1 hx)) with h1|h1
        ·left;rw[h1];simp
        ·right;omega
      ·have h1:many+(kN rd (rdE h.val)+kN true 1)=mk+1:=by rw[<-aT];simp[kN];omega
       rw[h1,d9.o];have h2:D ++ kL true (kL rd ((Kg env h count).map (Ho no vs)) ++ kL true [(⟨no,vs,h.buf,av,true,0,(count:Int)⟩:RtD)])=O.map RtO.d ++ [⟨no,vs,h.buf,av,true,0,(count:Int)⟩]:=by rw[cq.o];simp[kL]
       rw[h2];exact bJ.o
end Go.Proofs.YtfppibmloloakaaGreatDoor
