import Derived.Test.YtfppibmloloakaaGreatDoorP05
import Derived.Shelf.Abstract
import Derived.Deep.DeepCutAuto
import Derived.Deep.CutBlock
namespace Go.Proofs.YtfppibmloloakaaGreatDoor
open Go.RowKit Go.Proofs.Tryz
set_option linter.all false
theorem wpList_store_wide {P:Program}{ops:Array Oper}{rest:List Oper}{o:Oper}{a:Act}{w:World}{Q:Exit->Act->World->Prop}(hg1:o.guard=none)(ty:TypeId)(x y:Operand)(ho:o.op=.store ty x y)
  (g:Nat) (arr old:Array Value) (t:TypeId) (hx:a.eval x=.pointer (some ⟨g,0,none⟩)) (hy:a.eval y=.agg arr) (hB:Blk w g t old)
  (hi:(P.info? ty).map (·.size)=some arr.size) (hs:old.size=arr.size) (h1:arr.all (·.oneCell')=true)
  (h:∀w',Blk w' g t arr->Ext [g] w w'->wpList P ops Q rest (a.put o.dst undef) w'):wpList P ops Q (o :: rest) a w:=
 wpList_plain hg1 fun K hK=>by
  refine wp_store_row ty x y ho g arr hx hy t old hB hi hs h1 ?_
  exact hK _ _ (h _ (setRow_heap w g old arr t (0,0) hB) ⟨rfl,rfl,rfl,by simp[World.setRow],fun i _ hi=>setRow_other _ _ i _ (by simpa using hi)⟩)
def ptC (g:Nat):List Value:=[.pointer (some ⟨g,0,none⟩)]
def LoopN (w:World)(gs:List Nat)(names:List ByteArray):Prop:=gs.length=names.length/\∀(i g:Nat) (nm:ByteArray),gs[i]? = some g->names[i]? = some nm->∃pb po:Nat,w.cell? ⟨g,0,none⟩=some (.pointer (some ⟨pb,po,none⟩))/\w.cell? ⟨pb,po+1,none⟩=some (.string nm)
theorem LoopN.keep {w w':World}{gs:List Nat}{names:List ByteArray}(h:LoopN w gs names)(hE:Ext [] w w'):LoopN w' gs names:=⟨h.1,fun i g nm hg hn=>by
 obtain⟨pb,po,h1,h2⟩:=h.2 i g nm hg hn;exact⟨pb,po,hE.held h1 (List.not_mem_nil),hE.held h2 (List.not_mem_nil)⟩⟩
def lnArr (b:Int)(c:Nat->Int):Array Value:=#[.int .i64 b,.int .i64 (c 0),.int .i64 (c 1),.int .i64 (c 2),.int .i64 (c 3),.int .i64 (c 4),.int .i64 (c 5),.int .i64 (c 6),.int .i64 (c 7)]
theorem lnArr_set (b:Int)(c:Nat->Int)(i:Nat)(v:Int)(hi:i<8):(lnArr b c).setIfInBounds (i+1) (.int .i64 v)=lnArr b (updC c i v):=by
 have:i=0\/i=1\/i=2\/i=3\/i=4\/i=5\/i=6\/i=7:=by omega
 rcases this with rfl|rfl|rfl|rfl|rfl|rfl|rfl|rfl<;>simp[lnArr,updC]
theorem lnArr_get (b:Int)(c:Nat->Int)(i:Nat)(hi:i<8):(lnArr b c)[i+1]? = some (.int .i64 (c i)):=by
 have:i=0\/i=1\/i=2\/i=3\/i=4\/i=5\/i=6\/i=7:=by omega
 rcases this with rfl|rfl|rfl|rfl|rfl|rfl|rfl|rfl<;>rfl
theorem lnArr_one (b:Int)(c:Nat->Int):(lnArr b c).all (·.oneCell')=true:=by
 simp[lnArr];repeat(first|exact rfl|refine⟨rfl,?_⟩)
theorem infoLn:(Tryz.prog.info? 126).map (·.size)=some 9:=by kernel_rfl
theorem results_line {fn:Func}{p:Tmp}(h:fn.results=#[.cell p 126])(tmps:Array Value)(w:World)(g:Nat)(b:Int)(c:Nat->Int)
  (hp:tmps.getD p undef=.pointer (some ⟨g,0,none⟩)) (hg:Blk w g 126 (lnArr b c)):(results fn tmps).run Tryz.prog w=.ok (.agg (lnArr b c)) w:=
 results_cell_row h tmps w g _ (lnArr b c) (0,0) _ hp hg Tryz.underlying126 rfl infoLn
set_option maxRecDepth 100000 in
theorem lineOne_any (g pb po tb:Nat)(nm v:ByteArray)(w:World)(h1:w.cell? ⟨g,0,none⟩=some (.pointer (some ⟨pb,po,none⟩)))(h2:w.cell? ⟨pb,po+1,none⟩=some (.string nm))(h3:w.cell? ⟨tb,0,none⟩=some (.string v)) :
  Calls Tryz.prog 223 #[.pointer (some ⟨g,0,none⟩),.pointer (some ⟨tb,0,none⟩)] w (HasP (eqS nm v) w):=by
 go_enter Tryz.func223,Tryz.ntmps223
 go_wp2_with fail
 go_quiet (fail)
 go_wp2_with fail
 go_ret
 exact⟨rfl,(Ext.refl _ _).drewN _⟩
def PlcP (names:List ByteArray)(v:ByteArray)(w:World)(e:Ending)(w':World):Prop:=e=.returned (.int .i64 (plc names v))/\Ext [] w w'
theorem plc_first {names:List ByteArray}{v:ByteArray}{k:Nat}{x:ByteArray}(h:names[k]? = some x)(hx:eqS x v=true)(h0:∀(j:Nat) (y:ByteArray),j<k->names[j]? = some y->eqS y v=false):plc names v=k:=by
 unfold plc;have hl:=(List.getElem?_eq_some_iff.1 h).1;rw[List.findIdx_eq hl];refine⟨by have:=(List.getElem?_eq_some_iff.1 h).2;rw[this];exact hx,fun j hj=>?_⟩
 exact h0 j _ hj (List.getElem?_eq_getElem (by omega))
set_option maxRecDepth 100000 in
theorem plc_any (LA:Option Addr)(ln lc:Nat)(gs:List Nat)(names:List ByteArray)(tb:Nat)(v:ByteArray)(w:World)(hL:SeqIn w LA 1 ptC gs)(hN:LoopN w gs names)(hl:gs.length=ln)(hv:hasS names v=true)(hc:w.cell? ⟨tb,0,none⟩=some (.string v)) :
  Calls Tryz.prog 222 #[.slice LA ln lc,.func (.func 223) #[] #[.pointer (some ⟨tb,0,none⟩)]] w (PlcP names v w):=by
 have hn9:ln<=1000000:=by have:=hL.1;omega
 have HP:=hd hL;have HL:=hd hl;have HN:=hd hN;have HV:=hd hv;have HC:=hd hc;clear hL hl hN hv hc;go_enter Tryz.func222,Tryz.ntmps222
 go_wp2_with fail
 go_loopw [8] (fun i wr=>∃k:Nat,i=.int .i64 k/\k<=ln/\Hd (Ext [] w wr)/\Hd (∀(j:Nat) (x:ByteArray),j<k->names[j]? = some x->eqS x v=false)) (fun i _=>(ln-intOf i).toNat)
 case atStart=>exact⟨0,rfl,Nat.zero_le _,hd (Ext.refl _ _),hd fun j x hj=>absurd hj (by omega)⟩
 case round=>
  obtain⟨k,rfl,hk,HE,HQ⟩:=hrel;rename World=>wq
  by_cases hlt:k<ln
  ·obtain⟨b,g,rfl,hx,hcc⟩:=(HP.o.keep HE.o).at (i:=k) (by have:=HL.o;omega);have g0:=hcc 0 _ rfl;rw[Nat.add_zero,Nat.mul_one] at g0;obtain⟨nm,hnm⟩:∃nm,names[k]? = some nm:=⟨_,List.getElem?_eq_getElem (by have:=HN.o.1;have:=HL.o;omega)⟩;obtain⟨pb,po,hp1,hp2⟩:=(HN.o.keep HE.o).2 k g nm hx hnm;have HCL:=hd (lineOne_any g pb po tb nm v wq hp1 hp2 (HE.o.held HC.o (List.not_mem_nil)));have HNM:=hd hnm;clear hx hcc hnm hp1 hp2;go_wp2_with fail
   refine HCL.o.mono ?_
   rintro e w' ⟨rfl,hE⟩;have HE2:=hd (HE.o.trans hE);clear hE HCL;cases hp:eqS nm v
   ·have HQ2:=hd hp;clear hp;go_wp2_with fail
    go_roundw
    case rel=>
     refine⟨k+1,by go_num,by omega,HE2,hd fun j x hj hx=>?_⟩
     rcases Nat.lt_or_ge j k with h1|h1
     ·exact HQ.o j x h1 hx
     ·have:j=k:=by omega
      subst this;have:=HNM.o.symm.trans hx;cases this
      exact HQ2.o
    case measure=>simp[intOf];omega
   ·have HF:=hd (plc_first HNM.o hp HQ.o);clear hp;go_wp2_with fail
    go_ret
    exact⟨ret_int (by rw[HF.o]),HE2.o⟩
  ·exfalso
   have h1:=plc_lt HV.o;obtain⟨x,hx,hx2⟩:=plc_at HV.o;have:=HQ.o _ x (by have:=HN.o.1;have:=HL.o;omega) hx;rw[this] at hx2;cases hx2
def LineP (names:List ByteArray)(a:Af)(w:World)(e:Ending)(w':World):Prop:=e=.returned (.agg (lnArr a.base (coefS names a.ts)))/\Ext [] w w'
set_option maxHeartbeats 4000000 in
set_option maxRecDepth 100000 in
theorem line_any (a:Af)(LA:Option Addr)(ln lc:Nat)(gs:List Nat)(names:List ByteArray)(w:World)(ha:AfIn w a)(hL:SeqIn w LA 1 ptC gs)(hN:LoopN w gs names)(hl:gs.length=ln)(h8:names.length<=8)(hs:a.ts.any (strayT names)=false) :
  Calls Tryz.prog 192 #[afV a,.slice LA ln lc] w (LineP names a w):=by
 obtain⟨base,tA,tc,ts⟩:=a;generalize ht:ts.length=n;have hn9:n<=1000000:=by have:=ha.1;simp only at this;omega
 have HA:Hd (SeqIn w tA 2 tmC ts):=hd ha;have HL:=hd hL;have HN:=hd hN;have HLN:=hd hl;have HT:=hd ht
 have HIN:Hd (∀t∈ts,hasS names t.1=true):=hd fun t ht=>by
  have:=List.any_eq_false.1 hs t ht;simpa[strayT] using this
 have H8:=hd h8;clear ha hL hN hl hs h8;unfold afV;simp only[ht];clear ht;go_enter Tryz.func192,Tryz.ntmps192
 go_upto_region 2 with fail
 have HB0:=hd (((Blk.new w 38 #[.int .i64 base,.slice tA n tc]).alloc (.cells (lnArr 0 fun _=>0) 126)).alloc (.cells (lnArr base fun _=>0) 126));have HR0:=hd ((Blk.new' (w.alloc (.cells #[.int .i64 base,.slice tA n tc] 38)) 126 (lnArr 0 fun _=>0) (w.heap.size+1) (by simp)).alloc (.cells (lnArr base fun _=>0) 126));have HO0:=hd (Blk.new' ((w.alloc (.cells #[.int .i64 base,.slice tA n tc] 38)).alloc (.cells (lnArr 0 fun _=>0) 126)) 126 (lnArr base fun _=>0) (w.heap.size+1+1) (by simp));have HE0:=hd ((((Ext.refl [] w).alloc (.cells #[.int .i64 base,.slice tA n tc] 38)).alloc (.cells (lnArr 0 fun _=>0) 126)).alloc (.cells (lnArr base fun _=>0) 126));generalize hw3:World.alloc (World.alloc (World.alloc w _) _) _=w3;have hw3':((w.alloc (.cells #[.int .i64 base,.slice tA n tc] 38)).alloc (.cells (lnArr 0 fun _=>0) 126)).alloc (.cells (lnArr base fun _=>0) 126)=w3:=hw3;rw[hw3'] at HB0 HR0 HO0 HE0;clear hw3 hw3';generalize hs0:w.heap.size=s0 at *;have qb:=HB0.o.cell;have qbl:=HB0.o.lt;go_wp2_with fail
 clear qb qbl;go_loopw [15] (fun i wr=>∃k:Nat,i=.int .i64 k/\k<=n/\Hd (Ext [s0+1+1] w3 wr)/\Hd (Blk wr (s0+1+1) 126 (lnArr base (coefS names (ts.take k))))) (fun i _=>(n-intOf i).toNat)
 case atStart=>exact⟨0,rfl,Nat.zero_le _,hd (Ext.refl _ _),HO0⟩
 case round=>
  obtain⟨k,rfl,hk,HE,HO⟩:=hrel;rename World=>wq
  have HE2:=hd (keep0 HE0.o HE.o (by simp;omega));by_cases hlt:k<n
  ·obtain⟨b,⟨x0,x1⟩,rfl,hx,hc⟩:=(HA.o.keep HE2.o).at (i:=k) (by have:=HT.o;omega);have g0:=hc 0 _ rfl;have g1:=hc 1 _ rfl;rw[Nat.add_zero] at g0;have HXK:=hd hx;have HHS:=hd (HIN.o _ (List.mem_of_getElem? hx));clear hx hc;have HEx:=hd ((Ext.refl [] wq).alloc (.cells #[.string x0,.int .i64 x1] 178));have HBx:=hd (Blk.new wq 178 #[.string x0,.int .i64 x1]);have HOx:=hd (HO.o.alloc (.cells #[.string x0,.int .i64 x1] 178));have HPL:=hd (plc_any LA ln lc gs names wq.heap.size x0 (wq.alloc (.cells #[.string x0,.int .i64 x1] 178)) (HL.o.keep (HE2.o.trans HEx.o)) (HN.o.keep (HE2.o.trans HEx.o)) HLN.o HHS.o (HBx.o.cell 0));go_wp2_with fail
   refine HPL.o.mono ?_
   rintro e w4 ⟨rfl,hE⟩;have HE4:=hd ((HE.o.alloc (.cells #[.string x0,.int .i64 x1] 178)).trans hE.nil);have HB4:=hd (HBx.o.ext hE (List.not_mem_nil));have HO4:=hd (HOx.o.ext hE (List.not_mem_nil));have hol:=HO.o.lt;generalize hs1:wq.heap.size=s1 at *;clear hE HPL HBx HOx HEx;have hp8:=plc_lt HHS.o;have HCT:=hd (coefS_take (names:=names) HXK.o);generalize plc names x0=p at *;have hp:p<8:=by have:=H8.o;omega
   have qb:=HB4.o.cell;have qbl:=HB4.o.lt;have qo:=HO4.o.cell (p+1);rw[lnArr_get _ _ _ hp,Nat.add_comm p 1] at qo;have qf:=HO4.o.frozen (1+p);have qol:=HO4.o.lt;go_wp2_with fail
   have HO5:=hd (HO4.o.set_' (1+p) (.int .i64 x1) (lnArr base (coefS names (ts.take (k+1)))) (by rw[HCT.o,Nat.add_comm 1 p];exact lnArr_set _ _ _ _ hp));have HE5:=hd (HE4.o.trans (Ext.setAt (b:=s0+1+1) (i:=1+p) (u:=.int .i64 x1) (.inl (by simp)) (Ext.refl [s0+1+1] w4)));go_roundw
   case rel=>exact⟨k+1,by go_num,by omega,HE5,HO5⟩
   case measure=>simp[intOf];omega
  ·have hkn:k=n:=by omega
   subst hkn;have HTK:Hd (ts.take k=ts):=hd (List.take_of_length_le (by have:=HT.o;omega));rw[HTK.o] at HO;have HRq:=hd (HR0.o.ext HE.o (by simp));generalize hcc:coefS names ts=c at *;have HCC:=hd hcc;clear hcc
   go_wp2_with (first
    | refine wpList_load_wide rfl 126 _ rfl (s0+1+1) 0 rfl (lnArr base c) HO.o.wide _ Tryz.underlying126 rfl infoLn ?_
    | (
      refine wpList_store_wide rfl 126 _ _ rfl (s0+1) (lnArr base c) (lnArr 0 fun _=>0) 126 rfl rfl HRq.o infoLn rfl (lnArr_one _ _) ?_
      intro w5 hB5 hE5;have HB5:=hd hB5;have HE5:=hd hE5;clear hB5 hE5))
   have HE6:=hd (HE2.o.step HE5.o (fun x hx=>.inr (by rw[List.mem_singleton.1 hx];omega)));exact bodyPost_ret (results_line rfl _ _ (s0+1) base c rfl HB5.o) rfl ⟨by show _=Ending.returned (.agg (lnArr base (coefS names ts)));rw[HCC.o],HE6.o⟩
def ceArr (pb po:Nat)(b:Int)(c:Nat->Int)(v:Value):Array Value:=#[.pointer (some ⟨pb,po,none⟩),.int .i64 b,.int .i64 (c 0),.int .i64 (c 1),.int .i64 (c 2),.int .i64 (c 3),.int .i64 (c 4),.int .i64 (c 5),.int .i64 (c 6),.int .i64 (c 7),v]
inductive CEx (w:World) (n:Nat) (T:List Nat) (names:List ByteArray):Nat->Ex->Prop
 | mk (g:Nat) (h:EH) (ks:List Ex) (pb po:Nat) (A:Option Addr) (cap:Nat) (gs:List Nat)
   (hg:Blk w g 271 (ceArr pb po h.at_.base (coefS names h.at_.ts) (.slice A ks.length cap))) (hg2:g<n/\g∉T)
   (hp:∀(j:Nat) (v:Value),(exH h ks.length)[j]? = some v->w.cell? ⟨pb,po+j,none⟩=some v) (hp2:pb<n/\pb∉T)
   (hk:SeqIn w A 1 ptC gs) (hk2:∀b o,A=some ⟨b,o,none⟩->b<n/\b∉T) (hl:gs.length=ks.length)
   (hs:∀(i g':Nat) (e':Ex),gs[i]? = some g'->ks[i]? = some e'->CEx w n T names g' e'):CEx w n T names g (.mk h ks)
theorem CEx.step {w w':World}{n n':Nat}{T T' S:List Nat}{names:List ByteArray}(hE:Ext S w w')(hS:∀x∈S,x∈T\/n<=x)(hn:n<=n')(hT:∀x∈T',x∈T\/n<=x):∀{g:Nat} {e:Ex},CEx w n T names g e->CEx w' n' T' names g e:=fun {g e} h=>by
 have hno:∀b,b<n/\b∉T->b∉S:=fun b hb hm=>by rcases hS b hm with h1|h1;exact hb.2 h1;omega
 have hto:∀b,b<n/\b∉T->b<n'/\b∉T':=fun b hb=>⟨by omega,fun hm=>by rcases hT b hm with h1|h1;exact hb.2 h1;omega⟩
 induction h with
 | mk g h ks pb po A cap gs hg hg2 hp hp2 hk hk2 hl hs ih=>
  exact .mk g h ks pb po A cap gs (hg.ext hE (hno _ hg2)) (hto _ hg2) (fun j v hv=>hE.held (hp j v hv) (hno _ hp2)) (hto _ hp2)
   (hk.ext hE fun x hx b o hA hxb=>hno _ (hk2 b o hA) (hxb ▸ hx)) (fun b o hA=>hto _ (hk2 b o hA)) hl ih
def ptV (g:Nat):Value:=.pointer (some ⟨g,0,none⟩)
theorem expInfo:∃i,Tryz.prog.info? 127=some i/\i.zero=some (.pointer none)/\i.size=1/\i.bytes=8:=info_parts (show((Tryz.prog).info? 127).map (fun i=>(i.zero,i.size,i.bytes))=some (some (.pointer none),1,8) by kernel_rfl)
theorem stmInfo:∃i,Tryz.prog.info? 117=some i/\i.zero=some (.pointer none)/\i.size=1/\i.bytes=8:=info_parts (show((Tryz.prog).info? 117).map (fun i=>(i.zero,i.size,i.bytes))=some (some (.pointer none),1,8) by kernel_rfl)
theorem own_pt {w:World}{base:Nat}{t:TypeId}{v:Value}{gs:List Nat}(h:Own1 w base t v (gs.map ptV))(hl:gs.length<=1000000):∃A c,v=.slice A gs.length c/\SeqIn w A 1 ptC gs/\v.ownBlock=A.map Addr.block:=by
 obtain⟨A,c,hv,hn,hc,hcell⟩:=own1_form h;rw[List.length_map] at hv;refine⟨A,c,hv,⟨hl,?_⟩,?_⟩
 ·by_cases he:gs=[]
  ·exact .inl he
  ·right
   have hp:0<(gs.map ptV).length:=by rw[List.length_map];exact List.length_pos_iff.2 he
   obtain⟨g,c2,hv2,h1,h2,h3,h4⟩:=own1_at h hp;rw[hv] at hv2;injection hv2 with e1 e2 e3;refine⟨g,e1,fun i x hx j v hv=>?_⟩
   have hj:j=0:=by
    cases j with
    | zero=>rfl
    | succ j=>simp[ptC] at hv
   subst hj;cases hv
   rw[Nat.mul_one,Nat.add_zero];exact h4 i _ (by rw[List.getElem?_map,hx];rfl)
 ·rw[hv];cases A<;>rfl
def sCE (B:Nat)(T:List Nat)(names:List ByteArray)(x:Ex):Spec:=⟨Nat,0,fun g=>.pointer (some ⟨g,0,none⟩),fun g w=>B<=g/\CEx w w.heap.size T names g x⟩
def sPB (B:Nat)(T:List Nat)(names:List ByteArray)(x:Ex):Spec:=⟨Nat,0,fun b=>.slice (some ⟨b,0,none⟩) 1 1,fun b w=>B<=b/\∃g,w.cell? ⟨b,0,none⟩=some (ptV g)/\CEx w w.heap.size T names g x⟩
def cexX (eb:Nat)(T:List Nat)(names:List ByteArray)(x:Ex)(L:Nat->Prop)(y:Value)(g8:Nat)(w:World):Prop:=L g8/\∃g,y=ptV g/\CEx w w.heap.size (eb :: ((some g8).toList ++ T)) names g x
def CExP (T:List Nat)(names:List ByteArray)(x:Ex)(w:World)(e:Ending)(w':World):Prop:=∃g,e=.returned (.pointer (some ⟨g,0,none⟩))/\Ext [] w w'/\w.heap.size<=g/\CEx w' w'.heap.size T names g x
def CExC (x:Ex):Prop:=∀(pb po:Nat) (LA:Option Addr) (ln lc:Nat) (gl:List Nat) (names:List ByteArray) (nb:Nat) (T:List Nat) (w0 w:World),ExIn w0 x->(∀(j:Nat) (v:Value),(exC x)[j]? = some v->w0.cell? ⟨pb,po+j,none⟩=some v)->Ext [] w0 w->
 SeqIn w LA 1 ptC gl->LoopN w gl names->gl.length=ln->names.length<=8->exprE names nb x=0->(∀t∈T,w0.heap.size<=t/\t<w.heap.size)->
  Calls Tryz.prog 193 #[.pointer (some ⟨pb,po,none⟩),.slice LA ln lc] w (CExP T names x w)
set_option maxHeartbeats 4000000 in
set_option maxRecDepth 100000 in
theorem cex_any:∀x:Ex,CExC x:=by
 refine ex_ind ?_
 intro h ks ih pb po LA ln lc gl names nb T w0 w hX hP hE0 hL hN hl h8 hx hT;obtain⟨hx1,hx2⟩:=exprE_spec hx;obtain⟨-,-,-,-,hx3⟩:=headX_spec hx1;have hA:=hX.at
 have hst:=(affE_spec hx3).2.2.2.2;have HI:=hd ih;have HX:=hd hX;have HP:=hd hP;have HE0:=hd hE0;have HL:=hd hL;have HN:=hd hN;have HLN:=hd hl;have H8:=hd h8;have HX2:=hd hx2;have HT:=hd hT;have HR:=hd hX.row;have hn9:ks.length<=1000000:=hX.row.1;have HLI:=hd (line_any h.at_ LA ln lc gl names w (hA.keep hE0) hL hN hl h8 hst);have hpb:pb<w0.heap.size:=World.block_lt_of_cell? w0 _ (hP 0 _ rfl);have e7:=hE0.held (hP 7 _ rfl) (List.not_mem_nil);have e8:=hE0.held (hP 8 _ rfl) (List.not_mem_nil);have e9:=hE0.held (hP 9 _ rfl) (List.not_mem_nil);clear ih hX hP hE0 hL hN hl h8 hx hx1 hx2 hx3 hA hst hT;unfold afV at HLI;go_enter Tryz.func193,Tryz.ntmps193
 go_wp2_with fail
 refine HLI.o.mono ?_
 rintro r w1 ⟨rfl,hE⟩;have HE1:=hd hE;have g9:=hE.held e9 (List.not_mem_nil);have hpb1:=World.block_lt_of_cell? w1 _ g9;simp only at hpb1;have HB2:=hd (Blk.new w1 271 (ceArr pb po h.at_.base (coefS names h.at_.ts) (.slice none 0 0)));have HE2:=hd (HE1.o.alloc (.cells (ceArr pb po h.at_.base (coefS names h.at_.ts) (.slice none 0 0)) 271));have hwz:=HE1.o.size;clear hE e7 e8 e9 HLI;unfold ceArr at HB2 HE2;unfold lnArr;generalize hc:coefS names h.at_.ts=c at *;have HC:=hd hc;clear hc;generalize hks:ks.length=n at *;have HKL:=hd hks;clear hks;go_wp2_with fail
 clear g9;generalize World.alloc w1 _=w2 at *;generalize hs1:w1.heap.size=eb at *;go_loopw [21] (fun i wr=>∃(k:Nat) (v:Value) (gs:List Nat),i=.int .i64 k/\k<=n/\gs.length=k/\Hd (Ext [] w wr)/\Hd (Blk wr eb 271 (ceArr pb po h.at_.base c v))/\Hd (Own1 wr w.heap.size 127 v (gs.map ptV))/\Hd (∀(i g:Nat) (e:Ex),gs[i]? = some g->ks[i]? = some e->CEx wr wr.heap.size (eb :: (v.ownBlock.toList ++ T)) names g e)) (fun i _=>(n-intOf i).toNat)
 case atStart=>exact⟨0,.slice none 0 0,[],rfl,Nat.zero_le _,rfl,HE2,HB2,hd (own1_nil _ _ _),hd fun i g e hg=>by simp at hg⟩
 case round=>
  obtain⟨k,v,gs,rfl,hk,hgl,HE,HB,HO,HG⟩:=hrel;clear HE2 HB2;rename World=>wq
  by_cases hlt:k<n
  ·obtain⟨b,x,hbA,hx,hcc⟩:=HR.o.at (i:=k) (by have:=HKL.o;omega);have hmem:=List.mem_of_getElem? hx;have HXK:=hd hx;have HXI:=hd (HI.o x hmem)
   have HCL:=hd (fun W (hW:Ext [] wq W)=>HXI.o b (k*10) LA ln lc gl names nb (eb :: (v.ownBlock.toList ++ T)) w0 W (HX.o.kid hmem) hcc (HE0.o.trans (HE.o.trans hW)) (HL.o.keep (HE.o.trans hW)) (HN.o.keep (HE.o.trans hW)) HLN.o H8.o (HX2.o x hmem) (fun t ht=>by
    have h1:=hW.size;have h2:=HE.o.size;have h3:=HE0.o.size;rcases List.mem_cons.1 ht with rfl|ht
    ·have:=HB.o.lt;omega
    ·rcases List.mem_append.1 ht with ht|ht
     ·have h5:=own1_blk HO.o (b:=t) (by simpa using ht);omega
     ·have:=HT.o t ht;omega))
   have hP9:=(HE0.o.trans HE.o).held (HP.o 9 _ rfl) (List.not_mem_nil);rw[HKL.o] at hP9;have HP9:=hd hP9;have HBA:=hd hbA;clear hx hcc hmem hP9 HXI hbA;have hkn:(k:Int)<(n:Int):=by omega
   obtain⟨i0,hi0,hz0,hz1,hz2⟩:=expInfo;have HSU:Hd (∀n:Nat,∀q∈v.ownBlock.toList,q∈eb :: (v.ownBlock.toList ++ T)\/n<=q):=hd fun n q hq=>.inl (List.mem_cons_of_mem _ (List.mem_append.2 (.inl hq)))
   have HEN:Hd (eb∉v.ownBlock.toList):=hd fun hm=>by
    obtain⟨C,hC⟩:=own_blk HO.o (g:=eb) (by simpa using hm);exact absurd (hC.type HB.o) (by decide)
   have HPN:Hd (pb∉v.ownBlock.toList):=hd fun hm=>by
    have h1:=(own1_blk HO.o (b:=pb) (by simpa using hm)).1;have h2:=HE0.o.size;omega
   go_wp2_with fail
   refine rgA 15 14 v.ownBlock.toList [(12,sCE wq.heap.size (eb :: (v.ownBlock.toList ++ T)) names x),(13,sPB wq.heap.size (eb :: (v.ownBlock.toList ++ T)) names x),(14,sAp w.heap.size 127 k (gs.map ptV) (cexX eb T names x fun g8=>v.ownBlock=some g8\/wq.heap.size<=g8))] rfl (by simp[kinds]) (fun oi h=>by cases h;rfl) ?_ ?_
   ·refine kinds_three (fun j hj u w w' hR h=>?_) (fun j hj u w w' hR h=>?_) fun j hj u w w' hR h=>?_
    ·exact⟨h.1,h.2.step hR.all (HSU.o _) hR.all.size fun x hx=>.inl hx⟩
    ·obtain⟨h0,g,h1,h2⟩:=h;exact⟨h0,g,hR.all.held h1 (fun hm=>by have:=(own1_blk HO.o (b:=u) (Option.mem_toList.1 hm)).2;omega),h2.step hR.all (HSU.o _) hR.all.size fun x hx=>.inl hx⟩
    ·obtain⟨y,⟨h0,g,h1,h3⟩,h2⟩:=h;exact⟨y,⟨h0,g,h1,h3.step (hR.pre hj) (by simp) (hR.pre hj).size fun x hx=>.inl hx⟩,own_ext h2 (hR.pre hj) (by simp)⟩
   simp only[List.take_succ_cons,List.take_zero,List.drop_succ_cons,List.drop_zero]
   repeat
    refine relAt_detU rfl rfl ?_
    apply Exists.intro
    refine⟨fun wr nr hg hJ=>?_,?_⟩
    ·have hA:=hJ.all;have qb:=(HB.o.ext hA HEN.o).cell;have qbl:=(HB.o.ext hA HEN.o).lt;have q9:=Ext.held hA HP9.o HPN.o;have q9l:=World.block_lt_of_cell? wr _ q9;simp only at q9l;unfold ceArr at qb;rw[HBA.o] at q9;clear hA hg;clear hJ;(go_simp;try go_bits)
     first|rfl|exact⟨rfl,rfl⟩
    simp only[Act.put,List.setIfInBounds_toArray,List.set_cons_succ,List.set_cons_zero]
   refine rel_extA (sCE wq.heap.size (eb :: (v.ownBlock.toList ++ T)) names x) rfl rfl (by decide) ?_ ?_
   ·apply Exists.intro
    apply Exists.intro
    refine⟨fun wr=>?_,fun wr r hg hJ hf=>?_⟩
    ·go_simp
     first|exact⟨rfl,rfl⟩|rfl
    ·have hW:=hJ.pre (hg.later 14 (by kernel_rfl));refine(HCL.o wr hW).mono ?_
     rintro e w' ⟨g,rfl,hE,hg,hX⟩;exact⟨g,rfl,⟨Nat.le_trans hW.size hg,hX⟩,hE⟩
   intro (g:Nat);simp only[Act.put,List.setIfInBounds_toArray,List.set_cons_succ,List.set_cons_zero];refine rel_newA (sPB wq.heap.size (eb :: (v.ownBlock.toList ++ T)) names x) rfl rfl (by decide) (fun wr r hg hJ hf=>?_) ?_
   ·have hq:(sCE wq.heap.size (eb :: (v.ownBlock.toList ++ T)) names x).V g wr:=get_after hf 12 (by kernel_rfl);refine⟨wr.heap.size,.cells #[ptV g] 127,?_,hJ.all.size,⟨g,(Blk.new wr 127 #[ptV g]).cell 0,hq.2.step ((Ext.refl [] wr).alloc _) (by simp) (by simp) fun x hx=>.inl hx⟩⟩
    (go_simp;try go_bits)
    first|rfl|exact⟨rfl,rfl⟩
   intro (pb2:Nat);simp only[Act.put,List.setIfInBounds_toArray,List.set_cons_succ,List.set_cons_zero];refine rel_appA 13 pb2 269 w.heap.size 127 i0 _ 8 v k 1 (gs.map ptV) _ _ (fun b y w=>wq.heap.size<=w.heap.size/\∃g,y=ptV g/\CEx w w.heap.size (eb :: (v.ownBlock.toList ++ T)) names g x) (cexX eb T names x fun g8=>v.ownBlock=some g8\/wq.heap.size<=g8) (sPB wq.heap.size (eb :: (v.ownBlock.toList ++ T)) names x).V rfl rfl rfl (by kernel_rfl) hi0 hz0 hz1 hz2 rfl rfl rfl rfl rfl ?_ (by kernel_rfl) rfl ?_ ?_ ?_ ?_ ?_ ?_
   ·intro wr hE;have h1:=own1_ext HO.o hE (by simp);unfold Own1 at h1;rw[List.length_map,hgl] at h1;exact h1
   ·exact fun w ⟨h0,g,h1,h2⟩=>⟨_,h1,rfl,Nat.le_trans h0 (Nat.le_of_lt (World.block_lt_of_cell? w _ h1)),g,rfl,h2⟩
   ·rintro y g8 w8 w9 ⟨h0,g,rfl,h2⟩ hE hg hlt;refine⟨hg.imp id (fun h=>by omega),g,rfl,h2.step hE (HSU.o _) hE.size fun q hq=>?_⟩
    rcases List.mem_cons.1 hq with rfl|hq
    ·left;simp
    ·rcases List.mem_append.1 hq with hq|hq
     ·have e:q=g8:=by simpa using hq
      subst e;rcases hg with h1|h1
      ·left;rw[h1];simp
      ·right;omega
     ·left;exact List.mem_cons_of_mem _ (List.mem_append.2 (.inr hq))
   ·unfold maxLen;omega
   ·omega
   ·exact HE.o.size
   intro u9;simp only[Act.put,List.setIfInBounds_toArray,List.set_cons_succ,List.set_cons_zero];refine relAt_nilU (fun w8 r hr hJ hF=>?_)
   have h14:(sAp w.heap.size 127 k (gs.map ptV) (cexX eb T names x fun g8=>v.ownBlock=some g8\/wq.heap.size<=g8)).V u9 w8:=hF 14;obtain⟨g8,c8⟩:=u9;obtain⟨y,⟨hloc,g',rfl,hgX⟩,hO8⟩:=h14;have HE8:=hd hJ.all;have HO8:Hd (w8.ownsRow w.heap.size 127 1 (.slice (some ⟨g8,0,none⟩) (k+1) c8) (k+1) (gs.map ptV ++ [ptV g'])):=hd hO8;have HGX:=hd hgX;have HLC:Hd (v.ownBlock=some g8\/wq.heap.size<=g8):=hd hloc;have HB8:=hd (HB.o.ext HE8.o HEN.o);have qb:=HB8.o.cell;have qf:=HB8.o.frozen;have qbl:=HB8.o.lt;unfold ceArr at qb;have hzw:=HE.o.size;have hz8:=HE8.o.size;dsimp only[sAp];clear hF hJ hr hgX hO8 hloc HCL;go_wp2_with fail
   have HB10:=hd (HB8.o.set_' 10 (.slice (some ⟨g8,0,none⟩) (k+1) c8) (ceArr pb po h.at_.base c (.slice (some ⟨g8,0,none⟩) (k+1) c8)) rfl);have HE8':Hd (Ext (eb :: v.ownBlock.toList) wq w8):=hd (HE8.o.mono fun x hx=>.inl (List.mem_cons_of_mem _ hx));have HE9:=hd (Ext.setAt (b:=eb) (i:=10) (u:=.slice (some ⟨g8,0,none⟩) (k+1) c8) (.inl (by simp)) (Ext.refl (eb :: v.ownBlock.toList) w8));have HE10:=hd (HE8'.o.trans HE9.o)
   have hS:∀q∈eb :: v.ownBlock.toList,q∈eb :: (v.ownBlock.toList ++ T):=fun q hq=>by
    rcases List.mem_cons.1 hq with rfl|hq
    ·simp
    ·exact List.mem_cons_of_mem _ (List.mem_append.2 (.inl hq))
   have hT9:∀q∈eb :: ((some g8).toList ++ T),q∈eb :: (v.ownBlock.toList ++ T)\/wq.heap.size<=q:=fun q hq=>by
    rcases List.mem_cons.1 hq with rfl|hq
    ·left;simp
    ·rcases List.mem_append.1 hq with hq|hq
     ·have e:q=g8:=by simpa using hq
      subst e;rcases HLC.o with h1|h1
      ·left;rw[h1];simp
      ·right;exact h1
     ·left;exact List.mem_cons_of_mem _ (List.mem_append.2 (.inr hq))
   have hsz:=HE10.o.size;go_roundw
   case rel=>
    refine⟨k+1,.slice (some ⟨g8,0,none⟩) (k+1) c8,gs ++ [g'],by go_num,by omega,by simp[hgl],hd ?_,HB10,hd ?_,hd fun i q e hq he=>?_⟩
    ·refine HE.o.step HE10.o fun q hq=>.inr ?_
     rcases List.mem_cons.1 hq with rfl|hq
     ·omega
     ·exact(own1_blk HO.o (Option.mem_toList.1 hq)).1
    ·have h1:Own1 w8 w.heap.size 127 (.slice (some ⟨g8,0,none⟩) (k+1) c8) ((gs ++ [g']).map ptV):=by
      unfold Own1;rw[List.map_append,List.length_append,List.length_map,hgl];exact HO8.o
     exact own1_ext h1 (Ext.setAt (b:=eb) (i:=10) (u:=.slice (some ⟨g8,0,none⟩) (k+1) c8) (.inl (by simp)) (Ext.refl [eb] w8)) fun b' hb'=>by
      cases hb'
      rw[List.mem_singleton];rintro rfl;obtain⟨C,hC⟩:=own_blk HO8.o rfl;exact absurd (hC.type HB8.o) (by decide)
    ·rcases Nat.lt_or_ge i k with h1|h1
     ·rw[List.getElem?_append_left (by omega)] at hq;exact(HG.o i q e hq he).step HE10.o (fun x hx=>.inl (hS x hx)) (by omega) hT9
     ·have hlen:=(List.getElem?_eq_some_iff.1 hq).1;have hik:i=k:=by simp[hgl] at hlen;omega
      subst hik;rw[List.getElem?_append_right (by omega),hgl,Nat.sub_self] at hq;cases hq
      have:=HXK.o.symm.trans he;cases this
      exact HGX.o.step (Ext.setAt (b:=eb) (i:=10) (.inl (by simp)) (Ext.refl [eb] w8)) (fun x hx=>.inl (by rw[List.mem_singleton.1 hx];simp)) (by simp[World.setCell]) fun x hx=>.inl hx
   case measure=>simp[intOf];omega
  ·have hkn:k=n:=by omega
   subst hkn;obtain⟨A,cp,hv,hsq,hob⟩:=own_pt HO.o (by omega)
   have HCX:Hd (CEx wq wq.heap.size T names eb (.mk h ks)):=hd (by
    have hl:gs.length=ks.length:=by have:=HKL.o;omega
    have hzw:=HE.o.size;have hz0:=HE0.o.size;refine .mk eb h ks pb po A cp gs ?_ ⟨HB.o.lt,fun hm=>?_⟩ (fun j u hu=>(HE0.o.trans HE.o).held (HP.o j u hu) (List.not_mem_nil)) ⟨by omega,fun hm=>?_⟩ hsq (fun b o hA=>?_) hl fun i g' e' hg he=>?_
    ·rw[HC.o,<-hl,<-hv];exact HB.o
    ·have:=HT.o eb hm;omega
    ·have:=HT.o pb hm;omega
    ·have h1:=own1_blk HO.o (b:=b) (by rw[hob,hA];rfl);exact⟨h1.2,fun hm=>by have:=HT.o b hm;omega⟩
    ·exact(HG.o i g' e' hg he).step (Ext.refl [] wq) (by simp) (Nat.le_refl _) fun x hx=>.inl (List.mem_cons_of_mem _ (List.mem_append.2 (.inr hx))))
   go_wp2_with fail
   go_ret
   exact⟨eb,rfl,HE.o,by omega,HCX.o⟩
def csArr (pb po:Nat)(d many:Int)(cv bv:Value)(st:Int)(pv:Value)(b:Int)(c:Nat->Int)(vv:Value)(fr en:Int):Array Value:=
 #[.pointer (some ⟨pb,po,none⟩),.int .i64 d,.int .i64 many,cv,bv,.int .i64 st,pv,.int .i64 b,.int .i64 (c 0),.int .i64 (c 1),.int .i64 (c 2),.int .i64 (c 3),.int .i64 (c 4),.int .i64 (c 5),.int .i64 (c 6),.int .i64 (c 7),vv,.int .i64 fr,.int .i64 en]
def lnL (names:List ByteArray)(a:Af):List Value:=(lnArr a.base (coefS names a.ts)).toList
def zeroC:Nat->Int:=fun _=>0
def Held {α:Type}(w:World)(n:Nat)(T:List Nat)(A:Option Addr)(k:Nat)(cs:α->List Value)(l:List α):Prop:=SeqIn w A k cs l/\∀b o,A=some ⟨b,o,none⟩->b<n/\b∉T
theorem Held.step {α:Type}{w w':World}{n n':Nat}{T T' S:List Nat}{A:Option Addr}{k:Nat}{cs:α->List Value}{l:List α}(h:Held w n T A k cs l)(hE:Ext S w w')(hS:∀x∈S,x∈T\/n<=x)(hn:n<=n')(hT:∀x∈T',x∈T\/n<=x):Held w' n' T' A k cs l:=by
 refine⟨h.1.ext hE fun x hx b o hA hxb=>?_,fun b o hA=>?_⟩
 ·have hb:=h.2 b o hA;subst hxb;rcases hS x hx with h1|h1
  ·exact hb.2 h1
  ·omega
 ·have hb:=h.2 b o hA;exact⟨by omega,fun hm=>by rcases hT b hm with h1|h1;exact hb.2 h1;omega⟩
def innerG (gl:List Nat)(h:SH)(g:Nat):List Nat:=if h.k=1 then gl ++ [g] else gl
inductive CSt (w:World) (n:Nat) (T L:List Nat) (AL:List Value):List ByteArray->List Int->List Nat->Nat->Nat->St->Prop
 | mk (names:List ByteArray) (path:List Int) (gl:List Nat) (no g:Nat) (h:SH) (b:List St) (pb po:Nat) (CA:Option Addr) (cc:Nat) (A:Option Addr) (cap:Nat) (gs:List Nat) (PA:Option Addr) (pc:Nat) (vv:Value)
   (hg:Blk w g 129 (csArr pb po names.length (if h.k=1 then(manyS h:Int) else 0) (.slice CA (if h.k=2 then h.conds.length else 0) cc) (.slice A b.length cap) (if h.k=3 then(no:Int) else 0) (.slice PA path.length pc) (if h.k=3 then h.at_.base else 0) (if h.k=3 then coefS names h.at_.ts else zeroC) vv no (no+storesS (.mk h b):Nat)))
   (hg2:g<n/\g∉T)
   (hp:∀(j:Nat) (v:Value),(stH h b.length)[j]? = some v->w.cell? ⟨pb,po+j,none⟩=some v) (hp2:pb<n/\pb∉T)
   (hc:h.k=2->Held w n T CA 9 (lnL names) h.conds) (hpv:Held w n T PA 1 inC path)
   (hv:h.k=3->∃(vb:Nat) (LA:Option Addr) (lc:Nat),vv=ptV vb/\CEx w n T names vb h.val/\L[no]? = some g/\AL[no]? = some (.slice LA gl.length lc)/\Held w n T LA 1 ptC gl)
   (hk:Held w n T A 1 ptC gs) (hl:gs.length=b.length)
   (hs:∀(i g':Nat) (s':St),gs[i]? = some g'->b[i]? = some s'->CSt w n T L AL (innerV names h) (path ++ [(i:Int)]) (innerG gl h g) (no+storesL (b.take i)) g' s'):CSt w n T L AL names path gl no g (.mk h b)
theorem CSt.step {w w':World}{n n':Nat}{T T' S L L':List Nat}{AL AL':List Value}(hE:Ext S w w')(hS:∀x∈S,x∈T\/n<=x)(hn:n<=n')(hT:∀x∈T',x∈T\/n<=x)(hL:∀(i g:Nat),L[i]? = some g->L'[i]? = some g)(hAL:∀(i:Nat) (g:Value),AL[i]? = some g->AL'[i]? = some g):∀{names:List ByteArray} {path:List Int} {gl:List Nat} {no g:Nat} {s:St},CSt w n T L AL names path gl no g s->CSt w' n' T' L' AL' names path gl no g s:=fun {names path gl no g s} h=>by
 have hno:∀b,b<n/\b∉T->b∉S:=fun b hb hm=>by rcases hS b hm with h1|h1;exact hb.2 h1;omega
 have hto:∀b,b<n/\b∉T->b<n'/\b∉T':=fun b hb=>⟨by omega,fun hm=>by rcases hT b hm with h1|h1;exact hb.2 h1;omega⟩
 induction h with
 | mk names path gl no g h b pb po CA cc A cap gs PA pc vv hg hg2 hp hp2 hc hpv hv hk hl hs ih=>
  refine .mk names path gl no g h b pb po CA cc A cap gs PA pc vv (hg.ext hE (hno _ hg2)) (hto _ hg2) (fun j v hv=>hE.held (hp j v hv) (hno _ hp2)) (hto _ hp2)
   (fun h2=>(hc h2).step hE hS hn hT) (hpv.step hE hS hn hT) (fun h3=>?_) (hk.step hE hS hn hT) hl ih
  obtain⟨vb,LA,lc,h1,h2,h4,h5,h6⟩:=hv h3;exact⟨vb,LA,lc,h1,h2.step hE hS hn hT,hL _ _ h4,hAL _ _ h5,h6.step hE hS hn hT⟩
set_option maxRecDepth 100000 in
theorem values_any (pb po:Nat)(h:SH)(w:World)(h2:w.cell? ⟨pb,po+2,none⟩=some (.int .i64 h.lo))(h3:w.cell? ⟨pb,po+3,none⟩=some (.int .i64 h.hi))(h4:w.cell? ⟨pb,po+4,none⟩=some (.int .i64 h.step))
  (b1 : -100000<=h.lo/\h.lo<=100000) (b2 : -100000<=h.hi/\h.hi<=100000) (b3:1<=h.step/\h.step<=100000) :
  Calls Tryz.prog 190 #[.pointer (some ⟨pb,po,none⟩)] w fun e w'=>e=.returned (.int .i64 (manyS h))/\Ext [] w w':=by
 have hbl:=World.block_lt_of_cell? w _ h2;simp only at hbl;have HM:Hd (manyS h=if h.hi<=h.lo then 0 else((h.hi-h.lo+h.step-1) / h.step).toNat):=hd rfl;generalize manyS h=m at *;generalize h.lo=lo at *;generalize h.hi=hi at *;generalize h.step=st at *;obtain⟨b1,b1'⟩:=b1;obtain⟨b2,b2'⟩:=b2;obtain⟨b3,b3'⟩:=b3;by_cases hlt:hi<=lo
 ·have e1:decide (hi<=lo)=true:=by simpa using hlt
  have HF:=hd (HM.o.trans (if_pos hlt));clear hlt;go_enter Tryz.func190,Tryz.ntmps190
  go_wp2_with fail
  go_quiet (fail)
  go_wp2_with fail
  go_ret
  exact⟨ret_int (by rw[HF.o];rfl),(Ext.refl _ _).drewN _⟩
 ·have e1:decide (hi<=lo)=false:=by simpa using hlt
  have hq:(hi-lo+st-1).tdiv st=((m:Nat):Int):=by
   rw[HM.o,if_neg hlt,Int.tdiv_eq_ediv_of_nonneg (by omega)];have:=Int.ediv_nonneg (a:=hi-lo+st-1) (b:=st) (by omega) (by omega);omega
  have hst:(st==0)=false:=by simp;omega
  have HQ:Hd ((hi-lo+st-1) / st=((m:Nat):Int)):=hd (by rw[<-hq,Int.tdiv_eq_ediv_of_nonneg (by omega)]);clear hq;go_enter Tryz.func190,Tryz.ntmps190
  go_wp2_with fail
  go_quiet (fail)
  go_wp2_with fail
  go_quiet (fail)
  go_wp2_with fail
  go_ret
  exact⟨ret_int HQ.o,((Ext.refl _ _).drewN _).drewN _⟩
theorem intInfo:∃i,Tryz.prog.info? 3=some i/\i.zero=some (.int .i64 0)/\i.size=1/\i.bytes=8:=info_parts (show((Tryz.prog).info? 3).map (fun i=>(i.zero,i.size,i.bytes))=some (some (.int .i64 0),1,8) by kernel_rfl)
set_option maxRecDepth 100000 in
theorem iClone_any (A:Option Addr)(n cap:Nat)(l:List Int)(w:World)(h:SeqIn w A 1 inC l)(hl:l.length=n)(hA:n=0->A=none/\cap=0) :
  Calls Tryz.prog 41 #[.slice A n cap] w (CloneP 3 (l.map (Value.int .i64)) w):=by
 obtain⟨h0,hx⟩:=h;rcases hx with hx|⟨b,rfl,hc⟩
 ·subst hx;simp at hl;subst hl;obtain⟨rfl,rfl⟩:=hA rfl;have heq:∀W:World,(binOp .eql 22 (.slice none 0 0) (.slice none 0 0)).run Tryz.prog W=.ok (.bool true) W:=fun W=>Go.Lib.run_eql_slice_nil (P:=Tryz.prog) (w:=W) (h:=Tryz.underlying22) ..
  go_enter Tryz.func41,Tryz.ntmps41
  go_wp2_with fail
  go_ret
  exact⟨_,rfl,Ext.refl _ _,own1_nil _ _ _⟩
 ·have hn:n≠0:=fun h=>by have:=(hA h).1;cases this
  obtain⟨i0,hi0,hz0,hz1,hz2⟩:=intInfo;have heq:∀W:World,(binOp .eql 22 (.slice (some ⟨b,0,none⟩) n cap) (.slice none 0 0)).run Tryz.prog W=.ok (.bool false) W:=fun W=>Go.Lib.run_eql_slice_nil (P:=Tryz.prog) (w:=W) (h:=Tryz.underlying22) ..
  have HH:=hd (fun(i:Nat) (x:Int) (hi:l[i]? = some x)=>(by have:=hc i x hi 0 _ rfl;rw[Nat.mul_one,Nat.add_zero] at this;exact this:w.cell? ⟨b,i,none⟩=some ((Value.int .i64) x)));have HL:=hd hl
  have hbl:b<w.heap.size:=by
   obtain⟨x,hx⟩:∃x,l[0]? = some x:=⟨_,List.getElem?_eq_getElem (by omega)⟩;exact World.block_lt_of_cell? w _ (HH.o 0 x hx)
  clear hc hA;go_enter Tryz.func41,Tryz.ntmps41
  go_wp2_with (
   refine wpList_append_lies _ rfl _ _ 22 rfl w.heap.size 3 i0 _ 1 8 Tryz.underlying22 hi0 hz0 hz1 hz2 rfl (by decide) _ 0 [] rfl ?c0 ⟨b,0,none⟩ n cap (l.map (Value.int .i64)) rfl (by simp;exact HL.o) ?c1 ?c2 (by omega) ?c3 ?c4 ?c5 _ rfl ?_
   case c0=>exact⟨rfl,.inr ⟨w.heap.size,0,#[],rfl,Nat.le_refl _,by show(w.heap.push _)[w.heap.size]? = _;simp,Nat.le_refl _,by decide,by simp,rfl⟩⟩
   case c1=>
    intro i x hx;rw[List.getElem?_map] at hx;cases hy:l[i]? with
    | none=>rw[hy] at hx;cases hx
    | some y=>
     rw[hy] at hx;cases hx
     rw[Addr.add_mk,Nat.zero_add];exact((Ext.refl [] w).alloc _).held (HH.o i y hy) (by simp)
   case c2=>intro u hu;obtain⟨y,-,rfl⟩:=List.mem_map.1 hu;rfl
   case c3=>unfold maxLen;omega
   case c4=>omega
   case c5=>simp
   intro g c8 w8 ho hg ha hlt;have HX:=hd (And.intro ho (And.intro hg ha));clear ho hg ha hlt)
  go_ret
  obtain⟨ho,hg,ha⟩:=HX.o;rw[Nat.zero_add,List.nil_append] at ho;refine⟨_,rfl,((Ext.refl [] w).alloc _).grown hg (fun k hk=>.inr ?_),?_⟩
  ·cases hk;exact Nat.le_refl _
  ·unfold Own1;rw[List.length_map,HL.o];exact ho
set_option maxRecDepth 100000 in
theorem pClone_any (A:Option Addr)(n cap:Nat)(l:List Nat)(w:World)(h:SeqIn w A 1 ptC l)(hl:l.length=n)(hA:n=0->A=none/\cap=0) :
  Calls Tryz.prog 191 #[.slice A n cap] w (CloneP 117 (l.map ptV) w):=by
 obtain⟨h0,hx⟩:=h;rcases hx with hx|⟨b,rfl,hc⟩
 ·subst hx;simp at hl;subst hl;obtain⟨rfl,rfl⟩:=hA rfl;have heq:∀W:World,(binOp .eql 124 (.slice none 0 0) (.slice none 0 0)).run Tryz.prog W=.ok (.bool true) W:=fun W=>Go.Lib.run_eql_slice_nil (P:=Tryz.prog) (w:=W) (h:=Tryz.underlying124) ..
  go_enter Tryz.func191,Tryz.ntmps191
  go_wp2_with fail
  go_ret
  exact⟨_,rfl,Ext.refl _ _,own1_nil _ _ _⟩
 ·have hn:n≠0:=fun h=>by have:=(hA h).1;cases this
  obtain⟨i0,hi0,hz0,hz1,hz2⟩:=stmInfo;have heq:∀W:World,(binOp .eql 124 (.slice (some ⟨b,0,none⟩) n cap) (.slice none 0 0)).run Tryz.prog W=.ok (.bool false) W:=fun W=>Go.Lib.run_eql_slice_nil (P:=Tryz.prog) (w:=W) (h:=Tryz.underlying124) ..
  have HH:=hd (fun(i:Nat) (x:Nat) (hi:l[i]? = some x)=>(by have:=hc i x hi 0 _ rfl;rw[Nat.mul_one,Nat.add_zero] at this;exact this:w.cell? ⟨b,i,none⟩=some (ptV x)));have HL:=hd hl
  have hbl:b<w.heap.size:=by
   obtain⟨x,hx⟩:∃x,l[0]? = some x:=⟨_,List.getElem?_eq_getElem (by omega)⟩;exact World.block_lt_of_cell? w _ (HH.o 0 x hx)
  clear hc hA;go_enter Tryz.func191,Tryz.ntmps191
  go_wp2_with (
   refine wpList_append_lies _ rfl _ _ 124 rfl w.heap.size 117 i0 _ 1 8 Tryz.underlying124 hi0 hz0 hz1 hz2 rfl (by decide) _ 0 [] rfl ?c0 ⟨b,0,none⟩ n cap (l.map ptV) rfl (by simp;exact HL.o) ?c1 ?c2 (by omega) ?c3 ?c4 ?c5 _ rfl ?_
   case c0=>exact⟨rfl,.inr ⟨w.heap.size,0,#[],rfl,Nat.le_refl _,by show(w.heap.push _)[w.heap.size]? = _;simp,Nat.le_refl _,by decide,by simp,rfl⟩⟩
   case c1=>
    intro i x hx;rw[List.getElem?_map] at hx;cases hy:l[i]? with
    | none=>rw[hy] at hx;cases hx
    | some y=>
     rw[hy] at hx;cases hx
     rw[Addr.add_mk,Nat.zero_add];exact((Ext.refl [] w).alloc _).held (HH.o i y hy) (by simp)
   case c2=>intro u hu;obtain⟨y,-,rfl⟩:=List.mem_map.1 hu;rfl
   case c3=>unfold maxLen;omega
   case c4=>omega
   case c5=>simp
   intro g c8 w8 ho hg ha hlt;have HX:=hd (And.intro ho (And.intro hg ha));clear ho hg ha hlt)
  go_ret
  obtain⟨ho,hg,ha⟩:=HX.o;rw[Nat.zero_add,List.nil_append] at ho;refine⟨_,rfl,((Ext.refl [] w).alloc _).grown hg (fun k hk=>.inr ?_),?_⟩
  ·cases hk;exact Nat.le_refl _
  ·unfold Own1;rw[List.length_map,HL.o];exact ho
section
def RW (f:Addr->Value->Prop)(w w':World):Prop:=Shape w w'/\∀(p:Addr) (u:Value),w.cell? p=some u->w'.cell? p=some u\/∃y,w'.cell? p=some y/\f p y
section
variable {f:Addr->Value->Prop} {a b c w w':World}
theorem RW.of_ext (h:Ext [] w w'):RW f w w':=⟨Shape.of_ext h,fun p u hp=>.inl (h.held hp (List.not_mem_nil))⟩
theorem RW.trans (h:RW f a b)(k:RW f b c):RW f a c:=⟨h.1.trans k.1,fun p u hp=>by
 rcases h.2 p u hp with h1|⟨y,h1,h2⟩
 ·exact k.2 p u h1
 ·rcases k.2 p y h1 with h3|h3
  ·exact .inr ⟨y,h3,h2⟩
  ·exact .inr h3⟩
theorem RW.held (h:RW f w w'){p:Addr}{u:Value}(hp:w.cell? p=some u)(hf:∀y,f p y->y=u):w'.cell? p=some u:=by
 rcases h.2 p u hp with h1|⟨y,h1,h2⟩
 ·exact h1
 ·rw[h1,hf y h2]
theorem RW.setRow {g:Nat}{cs old:Array Value}{t:TypeId}(hg:w.heap[g]? = some (.cells old t (0,0)))(hs:cs.size=old.size)(h1:∀(i:Nat) (u:Value),old[i]? = some u->cs[i]? = some u\/∃y,cs[i]? = some y/\f ⟨g,i,none⟩ y):RW f w (w.setRow g cs):=⟨Shape.setRow g cs old t hg hs,fun p u hp=>by
 obtain⟨b,o,inr⟩:=p;by_cases hb:b=g
 ·subst hb;cases inr with
  | none=>
   rw[cell_of_row w b o old t (0,0) hg] at hp;rw[cell_setRow_same w b o old cs t (0,0) hg];exact h1 o u hp
  | some q=>
   exfalso
   simp[World.cell?,hg] at hp
 ·exact .inl (by rw[cell_setRow_other w g cs _ hb];exact hp)⟩
theorem cell_row {w:World}{base:Nat}{e:TypeId}{s n:Nat}{v:Value}{xs:List Value}(h:w.ownsRow base e s v n xs){g:Nat}(hg:v.ownBlock=some g){i:Nat}{x:Value}(hx:xs[i]? = some x):w.cell? ⟨g,i,none⟩=some x:=by
 obtain⟨hl,h⟩:=h;rcases h with⟨rfl,rfl⟩|⟨b,cap,cur,rfl,hb,hgg,h1,h2,h3,h4⟩
 ·cases hg
 ·cases hg
  rw[cell_of_row w b i cur e (0,0) hgg,<-Array.getElem?_toList];have hi:=(List.getElem?_eq_some_iff.1 hx).1;rw[<-h4,List.getElem?_take] at hx;split at hx
  ·exact hx
  ·cases hx
theorem own_rw {base:Nat}{e:TypeId}{s n:Nat}{v:Value}{xs:List Value}(h:w.ownsRow base e s v n xs)(hR:RW f w w')(hf:∀(g i:Nat) (x y:Value),v.ownBlock=some g->xs[i]? = some x->f ⟨g,i,none⟩ y->y=x):w'.ownsRow base e s v n xs:=by
 have hh:=h;obtain⟨hl,h⟩:=h;refine⟨hl,?_⟩
 rcases h with h|⟨b,cap,cur,rfl,hb,hgg,h1,h2,h3,h4⟩
 ·exact .inl h
 ·obtain⟨cur',hg',hz⟩:=hR.1 b cur e hgg;refine .inr ⟨b,cap,cur',rfl,hb,hg',h1,h2,hz.trans h3,?_⟩
  have hn:n*s<=cap*s:=Nat.mul_le_mul_right s h1;refine List.ext_getElem? fun i=>?_
  by_cases hi:i<xs.length
  ·have hx:=List.getElem?_eq_getElem hi;have hc:=hR.held (cell_row hh rfl hx) (fun y hy=>hf b i _ y rfl hx hy);rw[cell_of_row w' b i cur' e (0,0) hg',<-Array.getElem?_toList] at hc;rw[List.getElem?_take,if_pos (by omega),hx];exact hc
  ·have h5:(cur'.toList.take (n*s)).length<=i:=by rw[List.length_take,Array.length_toList];omega
   rw[List.getElem?_eq_none h5,List.getElem?_eq_none (by omega)]
end
theorem splice_get (l xs:List Value)(m:Nat)(hm:m+xs.length<=l.length)(i:Nat)(u:Value)(h:l[i]? = some u):(l.take m ++ xs ++ l.drop (m+xs.length))[i]? = some u\/∃j y,i=m+j/\xs[j]? = some y/\(l.take m ++ xs ++ l.drop (m+xs.length))[i]? = some y:=by
 have hl:(l.take m).length=m:=by rw[List.length_take];omega
 by_cases h1:i<m
 ·left
  rw[List.append_assoc,List.getElem?_append_left (by omega),List.getElem?_take,if_pos h1];exact h
 ·by_cases h2:i<m+xs.length
  ·right
   have hj:i-m<xs.length:=by omega
   refine⟨i-m,xs[i-m],by omega,List.getElem?_eq_getElem hj,?_⟩
   rw[List.append_assoc,List.getElem?_append_right (by omega),hl,List.getElem?_append_left hj];exact List.getElem?_eq_getElem hj
  ·left
   rw[List.getElem?_append_right (by simp;omega),List.getElem?_drop];simp only[List.length_append,hl];rw[show m+xs.length+(i-(m+xs.length))=i by omega];exact h
theorem run_append_rw (f:Addr->Value->Prop)(w:World)(t ty:TypeId)(base:Nat)(e:TypeId)(i:TypeInfo)(z:Value)(size bytes:Nat)(ht:Tryz.prog.underlying t=some (.slice e))(hi:Tryz.prog.info? e=some i)(hz:i.zero=some z)
  (hsize:i.size=size) (hby:i.bytes=bytes) (hzs:z.cells.size=size) (hs0:0<size)
  (v:Value) (n:Nat) (xs:List Value) (hown:w.ownsRow base e size v n xs) (b c:Nat) (news:List Value) (hnl:news.length=size)
  (hnews:∀j u,news[j]? = some u->w.cell? ⟨b,j,none⟩=some u) (hone:∀u∈news,u.oneCell'=true)
  (h63:n+1<=maxLen) (hbytes:(n+1)*bytes<=140737488355328) (hbase:base<=w.heap.size)
  (hf:∀g j u,v.ownBlock=some g->news[j]? = some u->f ⟨g,n*size+j,none⟩ u) :
  ∃g cap w',(Builtin.append_ #[t,t] ty #[v,.slice (some ⟨b,0,none⟩) 1 c]).run Tryz.prog w=.ok (.slice (some ⟨g,0,none⟩) (n+1) cap) w'/\
   w'.ownsRow base e size (.slice (some ⟨g,0,none⟩) (n+1) cap) (n+1) (xs ++ news)/\w.grownBy w' v.ownBlock/\RW f w w'/\(v.ownBlock=some g\/g=w.heap.size)/\g<w'.heap.size:=by
 have hl1:news.length=1*size:=by omega
 have hnews':∀j u,news[j]? = some u->w.cell? ((⟨b,0,none⟩:Addr).add j)=some u:=fun j u hj=>by
  rw[Addr.add_mk,Nat.zero_add];exact hnews j u hj
 obtain⟨g,cap,w',hr,ho,hg,hat,hlt⟩:=run_append_lies (P:=Tryz.prog) w t ty base e i z size bytes ht hi hz hsize hby hzs hs0 v n xs hown ⟨b,0,none⟩ 1 c news hl1 hnews' hone (by decide) h63 hbytes hbase _ rfl;refine⟨g,cap,w',hr,ho,hg,?_,hat,hlt⟩
 have hl:news.length=1*i.size:=by rw[hsize];exact hl1
 have hxl:=hown.1;rcases hown.2 with⟨rfl,rfl⟩|⟨bb,cp,cur,rfl,hb,hgb,hnc,hcm,hcs,htk⟩
 ·have hr2:=run_append_nil (P:=Tryz.prog) w t ty e i z ht hi hz ⟨b,0,none⟩ 1 c news hl hnews' (by omega) (by omega) (by rw[hby];omega);have h3:=hr.symm.trans hr2;injection h3 with _ e2;rw[e2];exact RW.of_ext ((Ext.refl [] w).drew.alloc _)
 ·by_cases hroom:n+1<=cp
  ·have hroom2:(n+1)*size<=cp*size:=Nat.mul_le_mul_right size hroom;rw[Nat.succ_mul] at hroom2;have hfit:n*i.size+news.length<=cur.size:=by rw[hsize,hcs,hnl];exact hroom2
   have hr2:=run_append_room (P:=Tryz.prog) w t ty e i ht hi bb n cp cur hgb ⟨b,0,none⟩ 1 c news hl hnews' hone hroom hfit;have h3:=hr.symm.trans hr2;injection h3 with _ e2;rw[e2]
   have hsz:((cur.toList.take (n*i.size) ++ news ++ cur.toList.drop (n*i.size+news.length)).toArray).size=cur.size:=by
    simp only[List.size_toArray,List.length_append,List.length_take,List.length_drop,Array.length_toList];omega
   refine RW.setRow hgb hsz fun i' u hi'=>?_
   rcases splice_get cur.toList news (n*i.size) (by rw[Array.length_toList];exact hfit) i' u (by simpa using hi') with h1|⟨j,y,h1,h2,h4⟩
   ·left;simpa using h1
   ·right
    refine⟨y,by simpa using h4,?_⟩
    rw[h1,hsize];exact hf bb j y rfl h2
  ·have holds:∀j u,xs[j]? = some u->w.cell? ((⟨bb,0,none⟩:Addr).add j)=some u:=hown.cells (g:=bb) rfl;have hr2:=run_append_grow (P:=Tryz.prog) w t ty e i z ht hi hz ⟨bb,0,none⟩ n cp xs (by rw[hsize];exact hown.1) holds ⟨b,0,none⟩ 1 c news hl hnews' (by omega) (by simp only[maxLen] at h63;omega) (growslice_fits (by omega) (by rw[hby];exact hbytes));have h3:=hr.symm.trans hr2;injection h3 with _ e2;rw[e2];exact RW.of_ext ((Ext.refl [] w).drew.alloc _)
def JW (w0:World)(T:List Nat)(f:Addr->Value->Prop)(_:Nat)(w:World):Prop:=Ext T w0 w/\RW f w0 w
theorem JW.ext {w0 w w':World}{T:List Nat}{f:Addr->Value->Prop}{k l:Nat}(h:JW w0 T f k w)(hE:Ext [] w w'):JW w0 T f l w':=⟨h.1.trans hE.nil,h.2.trans (RW.of_ext hE)⟩
theorem cells_one (w:World)(b:Nat)(x:Value)(h:w.cell? ⟨b,0,none⟩=some x):∀j u,[x][j]? = some u->w.cell? ⟨b,j,none⟩=some u:=fun j u hj=>by
 match j,hj with
 | 0,hj=>cases hj;exact h
def sRow (B:Nat)(t:TypeId)(xs:List Value):Spec:=⟨Value,.slice none 0 0,fun v=>v,fun v w=>w.ownsRow B t 1 v xs.length xs⟩
def sCells (B:Nat)(xs:List Value):Spec:=⟨Nat,0,fun b=>.slice (some ⟨b,0,none⟩) 1 1,fun b w=>B<=b/\∀j u,xs[j]? = some u->w.cell? ⟨b,j,none⟩=some u⟩
def sRowA (B:Nat)(t:TypeId)(s n:Nat)(xs:List Value)(L:Nat->Prop):Spec:=⟨Nat×Nat,(0,0),fun u=>.slice (some ⟨u.1,0,none⟩) (n+1) u.2,fun u w=>w.ownsRow B t s (.slice (some ⟨u.1,0,none⟩) (n+1) u.2) (n+1) xs/\L u.1⟩
theorem sRow.stays {B:Nat}{t:TypeId}{xs:List Value}{f:Addr->Value->Prop}(hf:∀(g i:Nat) (x y:Value),xs[i]? = some x->f ⟨g,i,none⟩ y->y=x):∀y w w',RW f w w'->(sRow B t xs).V y w->(sRow B t xs).V y w':=fun y w w' h k=>own_rw k h fun g i x y _=>hf g i x y
theorem sCells.stays {B:Nat}{xs:List Value}{f:Addr->Value->Prop}(hf:∀(b j:Nat) (u y:Value),B<=b->xs[j]? = some u->f ⟨b,j,none⟩ y->y=u):∀y w w',RW f w w'->(sCells B xs).V y w->(sCells B xs).V y w':=fun b w w' h ⟨k0,k⟩=>⟨k0,fun j u hj=>h.held (k j u hj) fun y hy=>hf b j u y k0 hj hy⟩
theorem sRowA.stays {B:Nat}{t:TypeId}{s n:Nat}{xs:List Value}{L:Nat->Prop}{f:Addr->Value->Prop}(hf:∀(g i:Nat) (x y:Value),L g->xs[i]? = some x->f ⟨g,i,none⟩ y->y=x):∀y w w',RW f w w'->(sRowA B t s n xs L).V y w->(sRowA B t s n xs L).V y w':=fun u w w' h ⟨k,k1⟩=>⟨own_rw k h fun g i x y hg=>by cases hg;exact hf _ i x y k1,k1⟩
theorem rgW {id:Nat}{Q:Exit->Act->World->Prop}{a:Act}{w:World}{l:List Oper}(p:Nat)(T:List Nat)(f:Addr->Value->Prop)(ks:List (Nat×Spec))(hs:Stays (kinds ks) (RW f))(h:relAt Tryz.prog l.toArray (JW w T f) (RW f) (kinds ks) (fun a w=>wpList Tryz.prog l.toArray Q (l.drop p) a w) 0 (l.take p) a (fun _ _=>True))(hm:(Tryz.prog).follows .mixedOrders=true:=by kernel_rfl)(hB:relB l.toArray p=true:=by kernel_rfl):(Code.region id l.toArray true).wp Tryz.prog Q a w:=
 wp_region_rel p (JW w T f) (RW f) (kinds ks) hm hB (fun _ _ h=>h) hs ⟨(Ext.refl _ _).drew,RW.of_ext (Ext.refl _ _).drew⟩ h
section
variable {P:Program} {ops:Array Oper} {S:Nat->Option Spec} {Q:Act->World->Prop} {k:Nat} {o:Oper} {rest:List Oper} {a:Act} {F:Nat->World->Prop} {w0:World} {T:List Nat} {f:Addr->Value->Prop}
theorem rel_extL (s:Spec)(hS:S k=some s)(hw:Region.wanted o (yielded ops a.tmps)=true)
  (hh:∃(g:FuncId) (args:Array Value),(∀w,(execOp a.eval o).run P w=.ok (.enter g args) w)/\
   (∀w n,JW w0 T f (n+1) w->(∀e∈o.after,Region.binds .any e=true->F e.on w)->Calls P g args w fun e w'=>∃x,e=.returned (s.f x)/\s.V x w'/\Ext [] w w'))
  (h:∀x:s.α,relAt P ops (JW w0 T f) (RW f) S Q (k+1) rest (a.put o.dst (s.f x)) (upd F k (s.V x))):relAt P ops (JW w0 T f) (RW f) S Q k (o :: rest) a F:=by
 obtain⟨g,args,hr,hu⟩:=hh;refine relAt_call s hS hw ⟨g,args,hr,fun w n hJ hf=>(hu w n hJ hf).mono ?_⟩ h
 rintro e w' ⟨x,he,hV,hE⟩;exact⟨x,he,hV,JW.ext hJ hE,RW.of_ext hE⟩
theorem rel_newL (s:Spec)(hS:S k=some s)(hw:Region.wanted o (yielded ops a.tmps)=true)
  (hr:∀w n,JW w0 T f (n+1) w->(∀e∈o.after,Region.binds .any e=true->F e.on w)->∃x ob,(execOp a.eval o).run P w=.ok (.value (s.f x)) (w.alloc ob)/\s.V x (w.alloc ob))
  (h:∀x:s.α,relAt P ops (JW w0 T f) (RW f) S Q (k+1) rest (a.put o.dst (s.f x)) (upd F k (s.V x))):relAt P ops (JW w0 T f) (RW f) S Q k (o :: rest) a F:=by
 refine relAt_value s hS hw (fun w n hJ hf=>?_) h
 obtain⟨x,ob,hx,hV⟩:=hr w n hJ hf;have hE:Ext [] w (w.alloc ob):=(Ext.refl _ _).alloc _;exact⟨x,_,hx,hV,JW.ext hJ hE,RW.of_ext hE⟩
end
section
variable {ops:Array Oper} {S:Nat->Option Spec} {Q:Act->World->Prop} {k:Nat} {o:Oper} {rest:List Oper} {a:Act} {F:Nat->World->Prop} {w0:World} {T:List Nat} {f:Addr->Value->Prop}
theorem rel_appL (B b:Nat)(t:TypeId)(e:TypeId)(i:TypeInfo)(z:Value)(size bytes:Nat)(v:Value)(n c:Nat)(xs news:List Value)(L:Nat->Prop)(s x:Operand)
  (hS:S k=some (sRowA B e size n (xs ++ news) L)) (hgd:o.guard=none) (ho:o.op=.call {callee:=.builtin .append,args:=#[s,x],argTypes:=#[t,t] })
  (ht:Tryz.prog.underlying t=some (.slice e)) (hi:Tryz.prog.info? e=some i) (hz:i.zero=some z) (hsize:i.size=size) (hby:i.bytes=bytes) (hzs:z.cells.size=size) (hs0:0<size)
  (hs:a.eval s=v) (hx:a.eval x=.slice (some ⟨b,0,none⟩) 1 c) (hnl:news.length=size) (hone:∀u∈news,u.oneCell'=true)
  (hr:∀w n',JW w0 T f (n'+1) w->(∀e∈o.after,Region.binds .any e=true->F e.on w)->w.ownsRow B e size v n xs/\∀j u,news[j]? = some u->w.cell? ⟨b,j,none⟩=some u)
  (hB:B<=w0.heap.size) (hT:∀g,v.ownBlock=some g->B<=g->g∈T\/w0.heap.size<=g) (hL:∀g,(v.ownBlock=some g/\B<=g)\/w0.heap.size<=g->L g)
  (hf:∀g j u,v.ownBlock=some g->B<=g->news[j]? = some u->f ⟨g,n*size+j,none⟩ u)
  (h63:n+1<=maxLen) (hbytes:(n+1)*bytes<=140737488355328)
  (h:∀u:Nat×Nat,relAt Tryz.prog ops (JW w0 T f) (RW f) S Q (k+1) rest (a.put o.dst (.slice (some ⟨u.1,0,none⟩) (n+1) u.2)) (upd F k ((sRowA B e size n (xs ++ news) L).V u))) :
  relAt Tryz.prog ops (JW w0 T f) (RW f) S Q k (o :: rest) a F:=by
 refine relAt_value _ hS (by simp[Region.wanted,hgd]) (fun w m hJ hF=>?_) h
 obtain⟨hR,hn⟩:=hr w m hJ hF;obtain⟨g,cap,w',hrun,hro,hg,hrw,hat,hlt⟩:=run_append_rw f w t o.type B e i z size bytes ht hi hz hsize hby hzs hs0 v n xs hR b c news hnl hn hone h63 hbytes (Nat.le_trans hB hJ.1.size) (fun g j u hg hu=>hf g j u hg (own_base hR g hg) hu);have hE:Ext T w0 w':=Ext.step hJ.1 (Ext.grown (S:=v.ownBlock.toList) (Ext.refl _ w) hg fun q hq=>.inl (by rw[hq];simp)) fun x hx=>hT x (Option.mem_toList.1 hx) (own_base hR x (Option.mem_toList.1 hx))
 refine⟨(g,cap),w',?_,⟨hro,hL g (hat.imp (fun h=>⟨h,own_base hR g h⟩) fun h=>by have:=hJ.1.size;omega)⟩,⟨hE,hJ.2.trans hrw⟩,hrw⟩
 unfold execOp;simp only[ho,resolve,invoke,builtin,Sem.run_bind,Sem.run_pure,Result.andThen_ok,List.map_toArray,List.map_cons,List.map_nil,hs,hx,hrun];rfl
end
end
end Go.Proofs.YtfppibmloloakaaGreatDoor
