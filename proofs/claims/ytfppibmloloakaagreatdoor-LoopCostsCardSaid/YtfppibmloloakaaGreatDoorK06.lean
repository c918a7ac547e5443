import Derived.Test.YtfppibmloloakaaGreatDoorK05
import Derived.Shelf.Abstract
import Derived.Deep.DeepCutAuto
import Derived.Deep.CutBlock
namespace Go.Proofs.YtfppibmloloakaaGreatDoor
open Go.RowKit Go.Proofs.Tryz
set_option linter.all false
set_option maxHeartbeats 64000000
theorem Bc {P:Program}{ops:Array Oper}{rest:List Oper}{o:Oper}{a:Act}{w:World}{Q:Exit->Act->World->Prop}(hg1:o.guard=none)(ty:TypeId)(x y:Operand)(ho:o.op=.store ty x y)
  (g:Nat) (arr old:Array Value) (t:TypeId) (hx:a.eval x=.pointer (some g)) (hy:a.eval y=.agg arr) (hB:Blk w g t old)
  (hi:(P.info? ty).map (·.size)=some arr.size) (hs:old.size=arr.size) (h1:arr.all (·.oneCell')=true)
  (h:∀w',Blk w' g t arr->Ext [g] w w'->wpList P ops Q rest (a.put o.dst undef) w'):wpList P ops Q (o :: rest) a w:=
 wpList_plain hg1 fun K hK=>by
  refine wp_store_row ty x y ho g arr hx hy t old hB hi hs h1 ?_
  exact hK _ _ (h _ (setRow_heap w g old arr t (0,0) hB) ⟨rfl,rfl,rfl,by simp[World.setRow],fun i _ hi=>setRow_other _ _ i _ (by simpa using hi)⟩)
def ptC (g:Nat):List Value:=[.pointer (some g)]
def Ru (w:World)(gs:List Nat)(names:List ByteArray):Prop:=gs.length=names.length/\∀(i g:Nat) (nm:ByteArray),gs[i]? = some g->names[i]? = some nm->∃pb po:Nat,w.cell? ⟨g,0,none⟩=some (.pointer (some ⟨pb,po,none⟩))/\w.cell? ⟨pb,po+1,none⟩=some (.string nm)
theorem Ru.keep {w w':World}{gs:List Nat}{names:List ByteArray}(h:Ru w gs names)(hE:Ext [] w w'):Ru w' gs names:=⟨h.1,fun i g nm hg hn=>by
 obtain⟨pb,po,h1,h2⟩:=h.2 i g nm hg hn;exact⟨pb,po,hE.held h1 (jH),hE.held h2 (jH)⟩⟩
def Bl (b:Int)(c:Nat->Int):Array Value:=#[.int .i64 b,.int .i64 (c 0),.int .i64 (c 1),.int .i64 (c 2),.int .i64 (c 3),.int .i64 (c 4),.int .i64 (c 5),.int .i64 (c 6),.int .i64 (c 7)]
theorem Ado (b:Int)(c:Nat->Int)(i:Nat)(v:Int)(hi:i<8):(Bl b c).setIfInBounds (i+1) (.int .i64 v)=Bl b (Oa c i v):=by
 have:i=0\/i=1\/i=2\/i=3\/i=4\/i=5\/i=6\/i=7:=by omega
 rcases this with rfl|rfl|rfl|rfl|rfl|rfl|rfl|rfl<;>simp[Bl,Oa]
theorem Ur (b:Int)(c:Nat->Int)(i:Nat)(hi:i<8):(Bl b c)[i+1]? = some (.int .i64 (c i)):=by
 have:i=0\/i=1\/i=2\/i=3\/i=4\/i=5\/i=6\/i=7:=by omega
 rcases this with rfl|rfl|rfl|rfl|rfl|rfl|rfl|rfl<;>rfl
theorem Us (b:Int)(c:Nat->Int):(Bl b c).all (·.oneCell')=true:=by
 simp[Bl];repeat(first|exact rfl|refine⟨rfl,?_⟩)
theorem Wm:(prog.info? 126).map (·.size)=some 9:=by kernel_rfl
theorem Wn {fn:Func}{p:Tmp}(h:fn.results=#[.cell p 126])(tmps:Array Value)(w:World)(g:Nat)(b:Int)(c:Nat->Int)
  (hp:tmps.getD p undef=.pointer (some g)) (hg:Blk w g 126 (Bl b c)):(results fn tmps).run prog w=.ok (.agg (Bl b c)) w:=
 results_cell_row h tmps w g _ (Bl b c) (0,0) _ hp hg underlying126 rfl Wm
set_option maxRecDepth 100000 in
theorem Ya (g pb po tb:Nat)(nm v:ByteArray)(w:World)(h1:w.cell? ⟨g,0,none⟩=some (.pointer (some ⟨pb,po,none⟩)))(h2:w.cell? ⟨pb,po+1,none⟩=some (.string nm))(h3:w.cell? ⟨tb,0,none⟩=some (.string v)) :
  Calls prog 223 #[.pointer (some g),.pointer (some tb)] w (Fk (eqS nm v) w):=by
 go_enter func223,ntmps223
 go_wp2_with fail
 go_quiet (fail)
 go_wp2_with fail
 go_ret
 exact⟨rfl,(jF _ _).drewN _⟩
def PlcP (names:List ByteArray)(v:ByteArray)(w:World)(e:Ending)(w':World):Prop:=e=.returned (.int .i64 (plc names v))/\Ext [] w w'
theorem Adp {names:List ByteArray}{v:ByteArray}{k:Nat}{x:ByteArray}(h:names[k]? = some x)(hx:eqS x v=true)(h0:∀(j:Nat) (y:ByteArray),j<k->names[j]? = some y->eqS y v=false):plc names v=k:=by
 unfold plc;have hl:=(ils h).1;rw[List.findIdx_eq hl];refine⟨by have:=(ils h).2;rw[this];exact hx,fun j hj=>?_⟩
 exact h0 j _ hj (jJ (by omega))
set_option maxRecDepth 100000 in
theorem Aig (LA:Option Addr)(ln lc:Nat)(gs:List Nat)(names:List ByteArray)(tb:Nat)(v:ByteArray)(w:World)(hL:Ak w LA 1 ptC gs)(hN:Ru w gs names)(hl:gs.length=ln)(hv:Fy names v=true)(hc:w.cell? ⟨tb,0,none⟩=some (.string v)) :
  Calls prog 222 #[.slice LA ln lc,.func (.func 223) #[] #[.pointer (some tb)]] w (PlcP names v w):=by
 have ae:ln<=1000000:=by have:=hL.1;omega
 have HP:=hd hL;have HL:=hd hl;have HN:=hd hN;have HV:=hd hv;have HC:=hd hc;clear hL hl hN hv hc;go_enter func222,ntmps222
 go_wp2_with fail
 go_loopw [8] (fun i wr=>∃k:Nat,i=.int .i64 k/\k<=ln/\Hd (Ext [] w wr)/\Hd (∀(j:Nat) (x:ByteArray),j<k->names[j]? = some x->eqS x v=false)) (fun i _=>(ln-intOf i).toNat)
 case atStart=>exact⟨0,rfl,jQ _,hd (jF _ _),hd fun j x hj=>absurd hj (by omega)⟩
 case round=>
  obtain⟨k,rfl,hk,HE,HQ⟩:=hrel;rename World=>wq
  by_cases af:k<ln
  ·obtain⟨b,g,rfl,hx,a8⟩:=(HP.o.keep HE.o).at (i:=k) (by have:=HL.o;omega);have g0:=a8 0 _ rfl;rw[Nat.add_zero,Nat.mul_one] at g0;obtain⟨nm,a1⟩:∃nm,names[k]? = some nm:=⟨_,jJ (by have:=HN.o.1;have:=HL.o;omega)⟩;obtain⟨pb,po,aa,ab⟩:=(HN.o.keep HE.o).2 k g nm hx a1;have a2:=hd (Ya g pb po tb nm v wq aa ab (HE.o.held HC.o (jH)));have a6:=hd a1;clear hx a8 a1 aa ab;go_wp2_with fail
   refine a2.o.mono ?_
   rintro e w' ⟨rfl,hE⟩;have a7:=hd (HE.o.trans hE);clear hE a2;cases hp:eqS nm v
   ·have ad:=hd hp;clear hp;go_wp2_with fail
    go_roundw
    case rel=>
     refine⟨k+1,by go_num,by omega,a7,hd fun j x hj hx=>?_⟩
     rcases Nat.lt_or_ge j k with h1|h1
     ·exact HQ.o j x h1 hx
     ·have:j=k:=by omega
      subst this;have:=a6.o.symm.trans hx;cases this
      exact ad.o
    case measure=>simp[intOf];omega
   ·have HF:=hd (Adp a6.o hp HQ.o);clear hp;go_wp2_with fail
    go_ret
    exact⟨Ae (by rw[HF.o]),a7.o⟩
  ·exfalso
   have h1:=We HV.o;obtain⟨x,hx,ac⟩:=Aae HV.o;have:=HQ.o _ x (by have:=HN.o.1;have:=HL.o;omega) hx;rw[this] at ac;cases ac
def Ak2 (names:List ByteArray)(a:Af)(w:World)(e:Ending)(w':World):Prop:=e=.returned (.agg (Bl a.base (Bq names a.ts)))/\Ext [] w w'
set_option maxRecDepth 100000 in
theorem Rv (a:Af)(LA:Option Addr)(ln lc:Nat)(gs:List Nat)(names:List ByteArray)(w:World)(ha:Jn w a)(hL:Ak w LA 1 ptC gs)(hN:Ru w gs names)(hl:gs.length=ln)(h8:names.length<=8)(hs:a.ts.any (Fh names)=false) :
  Calls prog 192 #[afV a,.slice LA ln lc] w (Ak2 names a w):=by
 obtain⟨base,tA,tc,ts⟩:=a;generalize ht:ts.length=n;have aB:n<=1000000:=by have:=ha.1;simp only at this;omega
 have HA:Hd (Ak w tA 2 tmC ts):=hd ha;have HL:=hd hL;have HN:=hd hN;have al:=hd hl;have HT:=hd ht
 have am:Hd (∀t∈ts,Fy names t.1=true):=hd fun t ht=>by
  have:=List.any_eq_false.1 hs t ht;simpa[Fh] using this
 have H8:=hd h8;clear ha hL hN hl hs h8;unfold afV;simp only[ht];clear ht;go_enter func192,ntmps192
 go_upto_region 2 with fail
 have a6:=hd (((jK w 38 #[base,.slice tA n tc]).alloc (.cells (Bl 0 fun _=>0) 126)).alloc (.cells (Bl base fun _=>0) 126));have ab:=hd ((Blk.new' (w.alloc (.cells #[base,.slice tA n tc] 38)) 126 (Bl 0 fun _=>0) (w.heap.size+1) (by simp)).alloc (.cells (Bl base fun _=>0) 126));have ac:=hd (Blk.new' ((w.alloc (.cells #[base,.slice tA n tc] 38)).alloc (.cells (Bl 0 fun _=>0) 126)) 126 (Bl base fun _=>0) (w.heap.size+1+1) (by simp));have ad:=hd ((((jF [] w).alloc (.cells #[base,.slice tA n tc] 38)).alloc (.cells (Bl 0 fun _=>0) 126)).alloc (.cells (Bl base fun _=>0) 126));generalize aj:World.alloc (World.alloc (World.alloc w _) _) _=w3;have hw3':((w.alloc (.cells #[base,.slice tA n tc] 38)).alloc (.cells (Bl 0 fun _=>0) 126)).alloc (.cells (Bl base fun _=>0) 126)=w3:=aj;rw[hw3'] at a6 ab ac ad;clear aj hw3';generalize aF:w.heap.size=s0 at *;have qb:=a6.o.cell;have ae:=a6.o.lt;go_wp2_with fail
 clear qb ae;go_loopw [15] (fun i wr=>∃k:Nat,i=.int .i64 k/\k<=n/\Hd (Ext [s0+1+1] w3 wr)/\Hd (Blk wr (s0+1+1) 126 (Bl base (Bq names (ts.take k))))) (fun i _=>(n-intOf i).toNat)
 case atStart=>exact⟨0,rfl,jQ _,hd (jF _ _),ac⟩
 case round=>
  obtain⟨k,rfl,hk,HE,HO⟩:=hrel;rename World=>wq
  have a1:=hd (Ea ad.o HE.o (by simp;omega));by_cases aH:k<n
  ·obtain⟨b,⟨x0,x1⟩,rfl,hx,hc⟩:=(HA.o.keep a1.o).at (i:=k) (by have:=HT.o;omega);have g0:=hc 0 _ rfl;have g1:=hc 1 _ rfl;rw[Nat.add_zero] at g0;have an:=hd hx;have af:=hd (am.o _ (ilm hx));clear hx hc;have a7:=hd ((jF [] wq).alloc (.cells #[.string x0,x1] 178));have a8:=hd (jK wq 178 #[.string x0,x1]);have ag:=hd (HO.o.alloc (.cells #[.string x0,x1] 178));have ah:=hd (Aig LA ln lc gs names wq.heap.size x0 (wq.alloc (.cells #[.string x0,x1] 178)) (HL.o.keep (a1.o.trans a7.o)) (HN.o.keep (a1.o.trans a7.o)) al.o af.o (a8.o.cell 0));go_wp2_with fail
   refine ah.o.mono ?_
   rintro e w4 ⟨rfl,hE⟩;have ao:=hd ((HE.o.alloc (.cells #[.string x0,x1] 178)).trans hE.nil);have ai:=hd (a8.o.ext hE (jH));have a2:=hd (ag.o.ext hE (jH));have aC:=HO.o.lt;generalize aG:wq.heap.size=s1 at *;clear hE ah a8 ag a7;have aD:=We af.o;have ap:=hd (Rl (names:=names) an.o);generalize plc names x0=p at *;have hp:p<8:=by have:=H8.o;omega
   have qb:=ai.o.cell;have ae:=ai.o.lt;have qo:=a2.o.cell (p+1);rw[Ur _ _ _ hp,Nat.add_comm p 1] at qo;have qf:=a2.o.frozen (1+p);have aE:=a2.o.lt;go_wp2_with fail
   have aq:=hd (a2.o.set_' (1+p) (.int .i64 x1) (Bl base (Bq names (ts.take (k+1)))) (by rw[ap.o,Nat.add_comm 1 p];exact Ado _ _ _ _ hp));have aa:=hd (ao.o.trans (jL (b:=s0+1+1) (i:=1+p) (u:=.int .i64 x1) (.inl (by simp)) (jF [s0+1+1] w4)));go_roundw
   case rel=>exact⟨k+1,by go_num,by omega,aa,aq⟩
   case measure=>simp[intOf];omega
  ·have au:k=n:=by omega
   subst au;have aw:Hd (ts.take k=ts):=hd (List.take_of_length_le (by have:=HT.o;omega));rw[aw.o] at HO;have ax:=hd (ab.o.ext HE.o (by simp));generalize ak:Bq names ts=c at *;have ay:=hd ak;clear ak
   go_wp2_with (first
    | refine Ac rfl 126 _ rfl (s0+1+1) 0 rfl (Bl base c) HO.o.wide _ underlying126 rfl Wm ?_
    | (
      refine Bc rfl 126 _ _ rfl (s0+1) (Bl base c) (Bl 0 fun _=>0) 126 rfl rfl ax.o Wm rfl (Us _ _) ?_
      intro w5 hB5 hE5;have az:=hd hB5;have aa:=hd hE5;clear hB5 hE5))
   have aA:=hd (a1.o.step aa.o (fun x hx=>.inr (by rw[jA.1 hx];omega)));exact bodyPost_ret (Wn rfl _ _ (s0+1) base c rfl az.o) rfl ⟨by show _=Ending.returned (.agg (Bl base (Bq names ts)));rw[ay.o],aA.o⟩
def Jy (pb po:Nat)(b:Int)(c:Nat->Int)(v:Value):Array Value:=#[.pointer (some ⟨pb,po,none⟩),.int .i64 b,.int .i64 (c 0),.int .i64 (c 1),.int .i64 (c 2),.int .i64 (c 3),.int .i64 (c 4),.int .i64 (c 5),.int .i64 (c 6),.int .i64 (c 7),v]
inductive CEx (w:World) (n:Nat) (T:List Nat) (names:List ByteArray):Nat->Ex->Prop
 | mk (g:Nat) (h:EH) (ks:List Ex) (pb po:Nat) (A:Option Addr) (cap:Nat) (gs:List Nat)
   (hg:Blk w g 271 (Jy pb po h.at_.base (Bq names h.at_.ts) (.slice A ks.length cap))) (hg2:g<n/\g∉T)
   (hp:∀(j:Nat) (v:Value),(exH h ks.length)[j]? = some v->w.cell? ⟨pb,po+j,none⟩=some v) (hp2:pb<n/\pb∉T)
   (hk:Ak w A 1 ptC gs) (hk2:∀b o,A=some ⟨b,o,none⟩->b<n/\b∉T) (hl:gs.length=ks.length)
   (hs:∀(i g':Nat) (e':Ex),gs[i]? = some g'->ks[i]? = some e'->CEx w n T names g' e'):CEx w n T names g (.mk h ks)
theorem CEx.step {w w':World}{n n':Nat}{T T' S:List Nat}{names:List ByteArray}(hE:Ext S w w')(hS:∀x∈S,x∈T\/n<=x)(hn:n<=n')(hT:∀x∈T',x∈T\/n<=x):∀{g:Nat} {e:Ex},CEx w n T names g e->CEx w' n' T' names g e:=fun {g e} h=>by
 have a1:∀b,b<n/\b∉T->b∉S:=fun b hb hm=>by rcases hS b hm with h1|h1;exact hb.2 h1;omega
 have a2:∀b,b<n/\b∉T->b<n'/\b∉T':=fun b hb=>⟨by omega,fun hm=>by rcases hT b hm with h1|h1;exact hb.2 h1;omega⟩
 induction h with
 | mk g h ks pb po A cap gs hg hg2 hp hp2 hk hk2 hl hs ih=>
  exact .mk g h ks pb po A cap gs (hg.ext hE (a1 _ hg2)) (a2 _ hg2) (fun j v hv=>hE.held (hp j v hv) (a1 _ hp2)) (a2 _ hp2)
   (hk.ext hE fun x hx b o hA hxb=>a1 _ (hk2 b o hA) (hxb ▸ hx)) (fun b o hA=>a2 _ (hk2 b o hA)) hl ih
def ptV (g:Nat):Value:=.pointer (some g)
theorem Aih:∃i,prog.info? 127=some i/\i.zero=some (.pointer none)/\i.size=1/\i.bytes=8:=info_parts (show((prog).info? 127).map (fun i=>(i.zero,i.size,i.bytes))=some (some (.pointer none),1,8) by kernel_rfl)
theorem Qm:∃i,prog.info? 117=some i/\i.zero=some (.pointer none)/\i.size=1/\i.bytes=8:=info_parts (show((prog).info? 117).map (fun i=>(i.zero,i.size,i.bytes))=some (some (.pointer none),1,8) by kernel_rfl)
theorem Nq {w:World}{base:Nat}{t:TypeId}{v:Value}{gs:List Nat}(h:Ed w base t v (gs.map ptV))(hl:gs.length<=1000000):∃A c,v=.slice A gs.length c/\Ak w A 1 ptC gs/\v.ownBlock=A.map Addr.block:=by
 obtain⟨A,c,hv,hn,hc,a1⟩:=Pa h;rw[List.length_map] at hv;refine⟨A,c,hv,⟨hl,?_⟩,?_⟩
 ·by_cases he:gs=[]
  ·exact .inl he
  ·right
   have hp:0<(gs.map ptV).length:=by rw[List.length_map];exact List.length_pos_iff.2 he
   obtain⟨g,c2,a2,h1,h2,h3,h4⟩:=Ach h hp;rw[hv] at a2;injection a2 with e1 e2 e3;refine⟨g,e1,fun i x hx j v hv=>?_⟩
   have hj:j=0:=by
    cases j with
    | zero=>rfl
    | succ j=>simp[ptC] at hv
   subst hj;cases hv
   rw[Nat.mul_one,Nat.add_zero];exact h4 i _ (by rw[List.getElem?_map,hx];rfl)
 ·rw[hv];cases A<;>rfl
def sCE (B:Nat)(T:List Nat)(names:List ByteArray)(x:Ex):Ba:=⟨Nat,0,fun g=>.pointer (some ⟨g,0,none⟩),fun g w=>B<=g/\CEx w w.heap.size T names g x⟩
def sPB (B:Nat)(T:List Nat)(names:List ByteArray)(x:Ex):Ba:=⟨Nat,0,fun b=>.slice (some ⟨b,0,none⟩) 1 1,fun b w=>B<=b/\∃g,w.cell? ⟨b,0,none⟩=some (ptV g)/\CEx w w.heap.size T names g x⟩
def Aj9 (eb:Nat)(T:List Nat)(names:List ByteArray)(x:Ex)(L:Nat->Prop)(y:Value)(g8:Nat)(w:World):Prop:=L g8/\∃g,y=ptV g/\CEx w w.heap.size (eb :: ((some g8).toList ++ T)) names g x
def CExP (T:List Nat)(names:List ByteArray)(x:Ex)(w:World)(e:Ending)(w':World):Prop:=∃g,e=.returned (.pointer (some ⟨g,0,none⟩))/\Ext [] w w'/\w.heap.size<=g/\CEx w' w'.heap.size T names g x
def CExC (x:Ex):Prop:=∀(pb po:Nat) (LA:Option Addr) (ln lc:Nat) (gl:List Nat) (names:List ByteArray) (nb:Nat) (T:List Nat) (w0 w:World),Gu w0 x->(∀(j:Nat) (v:Value),(exC x)[j]? = some v->w0.cell? ⟨pb,po+j,none⟩=some v)->Ext [] w0 w->
 Ak w LA 1 ptC gl->Ru w gl names->gl.length=ln->names.length<=8->Bs names nb x=0->(∀t∈T,w0.heap.size<=t/\t<w.heap.size)->
  Calls prog 193 #[.pointer (some ⟨pb,po,none⟩),.slice LA ln lc] w (CExP T names x w)
set_option maxRecDepth 100000 in
theorem Aii:∀x:Ex,CExC x:=by
 refine Gs ?_
 intro h ks ih pb po LA ln lc gl names nb T w0 w hX hP hE0 hL hN hl h8 hx hT;obtain⟨ax,ay⟩:=Kp hx;obtain⟨-,-,-,-,az⟩:=Nn ax;have hA:=hX.at
 have am:=(Jo az).2.2.2.2;have HI:=hd ih;have HX:=hd hX;have HP:=hd hP;have a6:=hd hE0;have HL:=hd hL;have HN:=hd hN;have aF:=hd hl;have H8:=hd h8;have aG:=hd ay;have HT:=hd hT;have HR:=hd hX.row;have b1:ks.length<=1000000:=hX.row.1;have ab:=hd (Rv h.at_ LA ln lc gl names w (hA.keep hE0) hL hN hl h8 am);have b2:pb<w0.heap.size:=jB w0 _ (hP 0 _ rfl);have e7:=hE0.held (hP 7 _ rfl) (jH);have e8:=hE0.held (hP 8 _ rfl) (jH);have e9:=hE0.held (hP 9 _ rfl) (jH);clear ih hX hP hE0 hL hN hl h8 hx ax ay az hA am hT;unfold afV at ab;go_enter func193,ntmps193
 go_wp2_with fail
 refine ab.o.mono ?_
 rintro r w1 ⟨rfl,hE⟩;have an:=hd hE;have g9:=hE.held e9 (jH);have ac:=jB w1 _ g9;simp only at ac;have ad:=hd (jK w1 271 (Jy pb po h.at_.base (Bq names h.at_.ts) (.slice none 0 0)));have ae:=hd (an.o.alloc (.cells (Jy pb po h.at_.base (Bq names h.at_.ts) (.slice none 0 0)) 271));have b3:=an.o.size;clear hE e7 e8 e9 ab;unfold Jy at ad ae;unfold Bl;generalize hc:Bq names h.at_.ts=c at *;have HC:=hd hc;clear hc;generalize aE:ks.length=n at *;have af:=hd aE;clear aE;go_wp2_with fail
 clear g9;generalize World.alloc w1 _=w2 at *;generalize b6:w1.heap.size=eb at *;go_loopw [21] (fun i wr=>∃(k:Nat) (v:Value) (gs:List Nat),i=.int .i64 k/\k<=n/\gs.length=k/\Hd (Ext [] w wr)/\Hd (Blk wr eb 271 (Jy pb po h.at_.base c v))/\Hd (Ed wr w.heap.size 127 v (gs.map ptV))/\Hd (∀(i g:Nat) (e:Ex),gs[i]? = some g->ks[i]? = some e->CEx wr wr.heap.size (eb :: (v.ownBlock.toList ++ T)) names g e)) (fun i _=>(n-intOf i).toNat)
 case atStart=>exact⟨0,.slice none 0 0,[],rfl,jQ _,rfl,ae,ad,hd (Io _ _ _),hd fun i g e hg=>by simp at hg⟩
 case round=>
  obtain⟨k,v,gs,rfl,hk,a8,HE,HB,HO,HG⟩:=hrel;clear ae ad;rename World=>wq
  by_cases b0:k<n
  ·obtain⟨b,x,aA,hx,aB⟩:=HR.o.at (i:=k) (by have:=af.o;omega);have a1:=ilm hx;have aH:=hd hx;have ao:=hd (HI.o x a1)
   have ap:=hd (fun W (hW:Ext [] wq W)=>ao.o b (k*10) LA ln lc gl names nb (eb :: (v.ownBlock.toList ++ T)) w0 W (HX.o.kid a1) aB (a6.o.trans (HE.o.trans hW)) (HL.o.keep (HE.o.trans hW)) (HN.o.keep (HE.o.trans hW)) aF.o H8.o (aG.o x a1) (fun t ht=>by
    have h1:=hW.size;have h2:=HE.o.size;have h3:=a6.o.size;rcases jE.1 ht with rfl|ht
    ·have:=HB.o.lt;omega
    ·rcases jN.1 ht with ht|ht
     ·have h5:=Bt HO.o (b:=t) (by simpa using ht);omega
     ·have:=HT.o t ht;omega))
   have ag:=(a6.o.trans HE.o).held (HP.o 9 _ rfl) (jH);rw[af.o] at ag;have aI:=hd ag;have aJ:=hd aA;clear hx aB a1 ag ao aA;have aq:(k:Int)<(n:Int):=by omega
   obtain⟨i0,aV,aw,aW,aX⟩:=Aih;have ah:Hd (∀n:Nat,∀q∈v.ownBlock.toList,q∈eb :: (v.ownBlock.toList ++ T)\/n<=q):=hd fun n q hq=>.inl (jI _ (jN.2 (.inl hq)))
   have ai:Hd (eb∉v.ownBlock.toList):=hd fun hm=>by
    obtain⟨C,hC⟩:=Cl HO.o (g:=eb) (by simpa using hm);exact absurd (hC.type HB.o) (by decide)
   have aK:Hd (pb∉v.ownBlock.toList):=hd fun hm=>by
    have h1:=(Bt HO.o (b:=pb) (by simpa using hm)).1;have h2:=a6.o.size;omega
   go_wp2_with fail
   refine rgA 15 14 v.ownBlock.toList [(12,sCE wq.heap.size (eb :: (v.ownBlock.toList ++ T)) names x),(13,sPB wq.heap.size (eb :: (v.ownBlock.toList ++ T)) names x),(14,sAp w.heap.size 127 k (gs.map ptV) (Aj9 eb T names x fun g8=>v.ownBlock=some g8\/wq.heap.size<=g8))] rfl (by simp[Bi]) (fun oi h=>by cases h;rfl) ?_ ?_
   ·refine Lt (fun j hj u w w' hR h=>?_) (fun j hj u w w' hR h=>?_) fun j hj u w w' hR h=>?_
    ·exact⟨h.1,h.2.step hR.all (ah.o _) hR.all.size fun x hx=>.inl hx⟩
    ·obtain⟨h0,g,h1,h2⟩:=h;exact⟨h0,g,hR.all.held h1 (fun hm=>by have:=(Bt HO.o (b:=u) (jC.1 hm)).2;omega),h2.step hR.all (ah.o _) hR.all.size fun x hx=>.inl hx⟩
    ·obtain⟨y,⟨h0,g,h1,h3⟩,h2⟩:=h;exact⟨y,⟨h0,g,h1,h3.step (hR.pre hj) (by simp) (hR.pre hj).size fun x hx=>.inl hx⟩,Ah h2 (hR.pre hj) (by simp)⟩
   simp only[TK]
   repeat(refine dEU (fun wr nr hg hJ=>by(have hA:=hJ.all;have qb:=(HB.o.ext hA ai.o).cell;have aL:=(HB.o.ext hA ai.o).lt;have q9:=Ext.held hA aI.o aK.o;have aM:=jB wr _ q9;simp only at aM;unfold Jy at qb;rw[aJ.o] at q9;clear hA hg);clear hJ;exact CL) ?_;simp only[PT])
   refine Oh (sCE wq.heap.size (eb :: (v.ownBlock.toList ++ T)) names x) rfl rfl (by decide) ?_ ?_
   ·refine EC fun wr r hg hJ hf=>?_
    have hW:=hJ.pre (hg.later 14 (by kernel_rfl));refine(ap.o wr hW).mono ?_
    rintro e w' ⟨g,rfl,hE,hg,hX⟩;exact⟨g,rfl,⟨nt hW.size hg,hX⟩,hE⟩
   intro (g:Nat);simp only[PT];refine Rx (sPB wq.heap.size (eb :: (v.ownBlock.toList ++ T)) names x) rfl rfl (by decide) (fun wr r hg hJ hf=>?_) ?_
   ·have hq:(sCE wq.heap.size (eb :: (v.ownBlock.toList ++ T)) names x).V g wr:=Bd hf 12 (by kernel_rfl);refine⟨wr.heap.size,.cells #[ptV g] 127,?_,hJ.all.size,⟨g,(jK wr 127 #[ptV g]).cell 0,hq.2.step ((jF [] wr).alloc _) (by simp) (by simp) fun x hx=>.inl hx⟩⟩
    (go_simp;try go_bits)
    first|rfl|exact⟨rfl,rfl⟩
   intro (pb2:Nat);simp only[PT];refine Afu 13 pb2 269 w.heap.size 127 i0 _ 8 v k 1 (gs.map ptV) _ _ (fun b y w=>wq.heap.size<=w.heap.size/\∃g,y=ptV g/\CEx w w.heap.size (eb :: (v.ownBlock.toList ++ T)) names g x) (Aj9 eb T names x fun g8=>v.ownBlock=some g8\/wq.heap.size<=g8) (sPB wq.heap.size (eb :: (v.ownBlock.toList ++ T)) names x).V rfl rfl rfl (by kernel_rfl) aV aw aW aX rfl rfl rfl rfl rfl ?_ (by kernel_rfl) rfl ?_ ?_ ?_ ?_ ?_ ?_
   ·intro wr hE;have h1:=Df HO.o hE (by simp);unfold Ed at h1;rw[List.length_map,a8] at h1;exact h1
   ·exact fun w ⟨h0,g,h1,h2⟩=>⟨_,h1,rfl,nt h0 (Nat.le_of_lt (jB w _ h1)),g,rfl,h2⟩
   ·rintro y g8 w8 w9 ⟨h0,g,rfl,h2⟩ hE hg b0;refine⟨hg.imp id (fun h=>by omega),g,rfl,h2.step hE (ah.o _) hE.size fun q hq=>?_⟩
    rcases jE.1 hq with rfl|hq
    ·left;simp
    ·rcases jN.1 hq with hq|hq
     ·have e:q=g8:=by simpa using hq
      subst e;rcases hg with h1|h1
      ·left;rw[h1];simp
      ·right;omega
     ·left;exact jI _ (jN.2 (.inr hq))
   ·unfold maxLen;omega
   ·omega
   ·exact HE.o.size
   intro u9;simp only[PT];refine Ci (fun w8 r hr hJ hF=>?_)
   have aN:(sAp w.heap.size 127 k (gs.map ptV) (Aj9 eb T names x fun g8=>v.ownBlock=some g8\/wq.heap.size<=g8)).V u9 w8:=hF 14;obtain⟨g8,c8⟩:=u9;obtain⟨y,⟨aa,g',rfl,aC⟩,aD⟩:=aN;have aj:=hd hJ.all;have au:Hd (w8.ownsRow w.heap.size 127 1 (.slice (some g8) (k+1) c8) (k+1) (gs.map ptV ++ [ptV g'])):=hd aD;have aO:=hd aC;have aP:Hd (v.ownBlock=some g8\/wq.heap.size<=g8):=hd aa;have a7:=hd (HB.o.ext aj.o ai.o);have qb:=a7.o.cell;have qf:=a7.o.frozen;have aL:=a7.o.lt;unfold Jy at qb;have aQ:=HE.o.size;have b4:=aj.o.size;dsimp only[sAp];clear hF hJ hr aC aD aa ap;go_wp2_with fail
   have ak:=hd (a7.o.set_' 10 (.slice (some g8) (k+1) c8) (Jy pb po h.at_.base c (.slice (some g8) (k+1) c8)) rfl);have HE8':Hd (Ext (eb :: v.ownBlock.toList) wq w8):=hd (aj.o.mono fun x hx=>.inl (jI _ hx));have aR:=hd (jL (b:=eb) (i:=10) (u:=.slice (some g8) (k+1) c8) (.inl (by simp)) (jF (eb :: v.ownBlock.toList) w8));have a2:=hd (HE8'.o.trans aR.o)
   have hS:∀q∈eb :: v.ownBlock.toList,q∈eb :: (v.ownBlock.toList ++ T):=fun q hq=>by
    rcases jE.1 hq with rfl|hq
    ·simp
    ·exact jI _ (jN.2 (.inl hq))
   have aS:∀q∈eb :: ((some g8).toList ++ T),q∈eb :: (v.ownBlock.toList ++ T)\/wq.heap.size<=q:=fun q hq=>by
    rcases jE.1 hq with rfl|hq
    ·left;simp
    ·rcases jN.1 hq with hq|hq
     ·have e:q=g8:=by simpa using hq
      subst e;rcases aP.o with h1|h1
      ·left;rw[h1];simp
      ·right;exact h1
     ·left;exact jI _ (jN.2 (.inr hq))
   have b5:=a2.o.size;go_roundw
   case rel=>
    refine⟨k+1,.slice (some g8) (k+1) c8,gs ++ [g'],by go_num,by omega,by simp[a8],hd ?_,ak,hd ?_,hd fun i q e hq he=>?_⟩
    ·refine HE.o.step a2.o fun q hq=>.inr ?_
     rcases jE.1 hq with rfl|hq
     ·omega
     ·exact(Bt HO.o (jC.1 hq)).1
    ·have h1:Ed w8 w.heap.size 127 (.slice (some g8) (k+1) c8) ((gs ++ [g']).map ptV):=by
      unfold Ed;rw[List.map_append,jG,List.length_map,a8];exact au.o
     exact Df h1 (jL (b:=eb) (i:=10) (u:=.slice (some g8) (k+1) c8) (.inl (by simp)) (jF [eb] w8)) fun b' hb'=>by
      cases hb'
      rw[jA];rintro rfl;obtain⟨C,hC⟩:=Cl au.o rfl;exact absurd (hC.type a7.o) (by decide)
    ·rcases Nat.lt_or_ge i k with h1|h1
     ·rw[List.getElem?_append_left (by omega)] at hq;exact(HG.o i q e hq he).step a2.o (fun x hx=>.inl (hS x hx)) (by omega) aS
     ·have al:=(ils hq).1;have aT:i=k:=by simp[a8] at al;omega
      subst aT;rw[jM (by omega),a8,Nat.sub_self] at hq;cases hq
      have:=aH.o.symm.trans he;cases this
      exact aO.o.step (jL (b:=eb) (i:=10) (.inl (by simp)) (jF [eb] w8)) (fun x hx=>.inl (by rw[jA.1 hx];simp)) (by simp[World.setCell]) fun x hx=>.inl hx
   case measure=>simp[intOf];omega
  ·have aq:k=n:=by omega
   subst aq;obtain⟨A,cp,hv,aY,aZ⟩:=Nq HO.o (by omega)
   have aU:Hd (CEx wq wq.heap.size T names eb (.mk h ks)):=hd (by
    have hl:gs.length=ks.length:=by have:=af.o;omega
    have aQ:=HE.o.size;have aw:=a6.o.size;refine .mk eb h ks pb po A cp gs ?_ ⟨HB.o.lt,fun hm=>?_⟩ (fun j u hu=>(a6.o.trans HE.o).held (HP.o j u hu) (jH)) ⟨by omega,fun hm=>?_⟩ aY (fun b o hA=>?_) hl fun i g' e' hg he=>?_
    ·rw[HC.o,<-hl,<-hv];exact HB.o
    ·have:=HT.o eb hm;omega
    ·have:=HT.o pb hm;omega
    ·have h1:=Bt HO.o (b:=b) (by rw[aZ,hA];rfl);exact⟨h1.2,fun hm=>by have:=HT.o b hm;omega⟩
    ·exact(HG.o i g' e' hg he).step (jF [] wq) (by simp) (jD _) fun x hx=>.inl (jI _ (jN.2 (.inr hx))))
   go_wp2_with fail
   go_ret
   exact⟨eb,rfl,HE.o,by omega,aU.o⟩
def Ck (pb po:Nat)(d many:Int)(cv bv:Value)(st:Int)(pv:Value)(b:Int)(c:Nat->Int)(vv:Value)(fr en:Int):Array Value:=
 #[.pointer (some ⟨pb,po,none⟩),.int .i64 d,.int .i64 many,cv,bv,.int .i64 st,pv,.int .i64 b,.int .i64 (c 0),.int .i64 (c 1),.int .i64 (c 2),.int .i64 (c 3),.int .i64 (c 4),.int .i64 (c 5),.int .i64 (c 6),.int .i64 (c 7),vv,.int .i64 fr,.int .i64 en]
def lnL (names:List ByteArray)(a:Af):List Value:=(Bl a.base (Bq names a.ts)).toList
def Ip:Nat->Int:=fun _=>0
def Mz {α:Type}(w:World)(n:Nat)(T:List Nat)(A:Option Addr)(k:Nat)(cs:α->List Value)(l:List α):Prop:=Ak w A k cs l/\∀b o,A=some ⟨b,o,none⟩->b<n/\b∉T
theorem Mz.step {α:Type}{w w':World}{n n':Nat}{T T' S:List Nat}{A:Option Addr}{k:Nat}{cs:α->List Value}{l:List α}(h:Mz w n T A k cs l)(hE:Ext S w w')(hS:∀x∈S,x∈T\/n<=x)(hn:n<=n')(hT:∀x∈T',x∈T\/n<=x):Mz w' n' T' A k cs l:=by
 refine⟨h.1.ext hE fun x hx b o hA hxb=>?_,fun b o hA=>?_⟩
 ·have hb:=h.2 b o hA;subst hxb;rcases hS x hx with h1|h1
  ·exact hb.2 h1
  ·omega
 ·have hb:=h.2 b o hA;exact⟨by omega,fun hm=>by rcases hT b hm with h1|h1;exact hb.2 h1;omega⟩
def Co (gl:List Nat)(h:SH)(g:Nat):List Nat:=if h.k=1 then gl ++ [g] else gl
inductive CSt (w:World) (n:Nat) (T L:List Nat) (AL:List Value):List ByteArray->List Int->List Nat->Nat->Nat->St->Prop
 | mk (names:List ByteArray) (path:List Int) (gl:List Nat) (no g:Nat) (h:SH) (b:List St) (pb po:Nat) (CA:Option Addr) (cc:Nat) (A:Option Addr) (cap:Nat) (gs:List Nat) (PA:Option Addr) (pc:Nat) (vv:Value)
   (hg:Blk w g 129 (Ck pb po names.length (if h.k=1 then(Ar h:Int) else 0) (.slice CA (if h.k=2 then h.conds.length else 0) cc) (.slice A b.length cap) (if h.k=3 then(no:Int) else 0) (.slice PA path.length pc) (if h.k=3 then h.at_.base else 0) (if h.k=3 then Bq names h.at_.ts else Ip) vv no (no+Be (.mk h b):Nat)))
   (hg2:g<n/\g∉T)
   (hp:∀(j:Nat) (v:Value),(stH h b.length)[j]? = some v->w.cell? ⟨pb,po+j,none⟩=some v) (hp2:pb<n/\pb∉T)
   (hc:h.k=2->Mz w n T CA 9 (lnL names) h.conds) (hpv:Mz w n T PA 1 inC path)
   (hv:h.k=3->∃(vb:Nat) (LA:Option Addr) (lc:Nat),vv=ptV vb/\CEx w n T names vb h.val/\L[no]? = some g/\AL[no]? = some (.slice LA gl.length lc)/\Mz w n T LA 1 ptC gl)
   (hk:Mz w n T A 1 ptC gs) (hl:gs.length=b.length)
   (hs:∀(i g':Nat) (s':St),gs[i]? = some g'->b[i]? = some s'->CSt w n T L AL (Aw names h) (path ++ [(i:Int)]) (Co gl h g) (no+Ab (b.take i)) g' s'):CSt w n T L AL names path gl no g (.mk h b)
theorem CSt.step {w w':World}{n n':Nat}{T T' S L L':List Nat}{AL AL':List Value}(hE:Ext S w w')(hS:∀x∈S,x∈T\/n<=x)(hn:n<=n')(hT:∀x∈T',x∈T\/n<=x)(hL:∀(i g:Nat),L[i]? = some g->L'[i]? = some g)(hAL:∀(i:Nat) (g:Value),AL[i]? = some g->AL'[i]? = some g):∀{names:List ByteArray} {path:List Int} {gl:List Nat} {no g:Nat} {s:St},CSt w n T L AL names path gl no g s->CSt w' n' T' L' AL' names path gl no g s:=fun {names path gl no g s} h=>by
 have a1:∀b,b<n/\b∉T->b∉S:=fun b hb hm=>by rcases hS b hm with h1|h1;exact hb.2 h1;omega
 have a2:∀b,b<n/\b∉T->b<n'/\b∉T':=fun b hb=>⟨by omega,fun hm=>by rcases hT b hm with h1|h1;exact hb.2 h1;omega⟩
 induction h with
 | mk names path gl no g h b pb po CA cc A cap gs PA pc vv hg hg2 hp hp2 hc hpv hv hk hl hs ih=>
  refine .mk names path gl no g h b pb po CA cc A cap gs PA pc vv (hg.ext hE (a1 _ hg2)) (a2 _ hg2) (fun j v hv=>hE.held (hp j v hv) (a1 _ hp2)) (a2 _ hp2)
   (fun h2=>(hc h2).step hE hS hn hT) (hpv.step hE hS hn hT) (fun h3=>?_) (hk.step hE hS hn hT) hl ih
  obtain⟨vb,LA,lc,h1,h2,h4,h5,h6⟩:=hv h3;exact⟨vb,LA,lc,h1,h2.step hE hS hn hT,hL _ _ h4,hAL _ _ h5,h6.step hE hS hn hT⟩
set_option maxRecDepth 100000 in
theorem Aan (pb po:Nat)(h:SH)(w:World)(h2:w.cell? ⟨pb,po+2,none⟩=some (.int .i64 h.lo))(h3:w.cell? ⟨pb,po+3,none⟩=some (.int .i64 h.hi))(h4:w.cell? ⟨pb,po+4,none⟩=some (.int .i64 h.step))
  (b1 : -100000<=h.lo/\h.lo<=100000) (b2 : -100000<=h.hi/\h.hi<=100000) (b3:1<=h.step/\h.step<=100000) :
  Calls prog 190 #[.pointer (some ⟨pb,po,none⟩)] w fun e w'=>e=.returned (.int .i64 (Ar h))/\Ext [] w w':=by
 have a2:=jB w _ h2;simp only at a2;have HM:Hd (Ar h=if h.hi<=h.lo then 0 else((h.hi-h.lo+h.step-1) / h.step).toNat):=hd rfl;generalize Ar h=m at *;generalize h.lo=lo at *;generalize h.hi=hi at *;generalize h.step=st at *;obtain⟨b1,a7⟩:=b1;obtain⟨b2,a8⟩:=b2;obtain⟨b3,aa⟩:=b3;by_cases a1:hi<=lo
 ·have e1:decide (hi<=lo)=true:=by simpa using a1
  have HF:=hd (HM.o.trans (ijp a1));clear a1;go_enter func190,ntmps190
  go_wp2_with fail
  go_quiet (fail)
  go_wp2_with fail
  go_ret
  exact⟨Ae (by rw[HF.o];rfl),(jF _ _).drewN _⟩
 ·have e1:decide (hi<=lo)=false:=by simpa using a1
  have hq:(hi-lo+st-1).tdiv st=((m:Nat):Int):=by
   rw[HM.o,ijn a1,Int.tdiv_eq_ediv_of_nonneg (by omega)];have:=Int.ediv_nonneg (a:=hi-lo+st-1) (b:=st) (by omega) (by omega);omega
  have a6:(st==0)=false:=by simp;omega
  have HQ:Hd ((hi-lo+st-1) / st=((m:Nat):Int)):=hd (by rw[<-hq,Int.tdiv_eq_ediv_of_nonneg (by omega)]);clear hq;go_enter func190,ntmps190
  go_wp2_with fail
  go_quiet (fail)
  go_wp2_with fail
  go_quiet (fail)
  go_wp2_with fail
  go_ret
  exact⟨Ae HQ.o,((jF _ _).drewN _).drewN _⟩
theorem Ht:∃i,prog.info? 3=some i/\i.zero=some (.int .i64 0)/\i.size=1/\i.bytes=8:=info_parts (show((prog).info? 3).map (fun i=>(i.zero,i.size,i.bytes))=some (some (.int .i64 0),1,8) by kernel_rfl)
set_option maxRecDepth 100000 in
theorem Aao (A:Option Addr)(n cap:Nat)(l:List Int)(w:World)(h:Ak w A 1 inC l)(hl:l.length=n)(hA:n=0->A=none/\cap=0) :
  Calls prog 41 #[.slice A n cap] w (Aak 3 (l.map (Value.int .i64)) w):=by
 obtain⟨h0,hx⟩:=h;rcases hx with hx|⟨b,rfl,hc⟩
 ·subst hx;simp at hl;subst hl;obtain⟨rfl,rfl⟩:=hA rfl;have a1:∀W:World,(binOp .eql 22 (.slice none 0 0) (.slice none 0 0)).run prog W=.ok (.bool true) W:=fun W=>Go.Lib.run_eql_slice_nil (P:=prog) (w:=W) (h:=underlying22) ..
  go_enter func41,ntmps41
  go_wp2_with fail
  go_ret
  exact⟨_,rfl,jF _ _,Io _ _ _⟩
 ·have hn:n≠0:=fun h=>by have:=(hA h).1;cases this
  obtain⟨i0,a2,a6,a7,a8⟩:=Ht;have a1:∀W:World,(binOp .eql 22 (.slice (some b) n cap) (.slice none 0 0)).run prog W=.ok (.bool false) W:=fun W=>Go.Lib.run_eql_slice_nil (P:=prog) (w:=W) (h:=underlying22) ..
  have HH:=hd (fun(i:Nat) (x:Int) (hi:l[i]? = some x)=>(by have:=hc i x hi 0 _ rfl;rw[Nat.mul_one,Nat.add_zero] at this;exact this:w.cell? ⟨b,i,none⟩=some ((Value.int .i64) x)));have HL:=hd hl
  have aa:b<w.heap.size:=by
   obtain⟨x,hx⟩:∃x,l[0]? = some x:=⟨_,jJ (by omega)⟩;exact jB w _ (HH.o 0 x hx)
  clear hc hA;go_enter func41,ntmps41
  go_wp2_with (
   refine wpList_append_lies _ rfl _ _ 22 rfl w.heap.size 3 i0 _ 1 8 underlying22 a2 a6 a7 a8 rfl (by decide) _ 0 [] rfl ?c0 ⟨b,0,none⟩ n cap (l.map (Value.int .i64)) rfl (by simp;exact HL.o) ?c1 ?c2 (by omega) ?c3 ?c4 ?c5 _ rfl ?_
   case c0=>exact⟨rfl,.inr ⟨w.heap.size,0,#[],rfl,jD _,by show(w.heap.push _)[w.heap.size]? = _;simp,jD _,by decide,by simp,rfl⟩⟩
   case c1=>
    intro i x hx;rw[List.getElem?_map] at hx;cases hy:l[i]? with
    | none=>rw[hy] at hx;cases hx
    | some y=>
     rw[hy] at hx;cases hx
     rw[Addr.add_mk,Nat.zero_add];exact((jF [] w).alloc _).held (HH.o i y hy) (by simp)
   case c2=>intro u hu;obtain⟨y,-,rfl⟩:=List.mem_map.1 hu;rfl
   case c3=>unfold maxLen;omega
   case c4=>omega
   case c5=>simp
   intro g c8 w8 ho hg ha hlt;have HX:=hd (And.intro ho (And.intro hg ha));clear ho hg ha hlt)
  go_ret
  obtain⟨ho,hg,ha⟩:=HX.o;rw[Nat.zero_add,List.nil_append] at ho;refine⟨_,rfl,((jF [] w).alloc _).grown hg (fun k hk=>.inr ?_),?_⟩
  ·cases hk;exact jD _
  ·unfold Ed;rw[List.length_map,HL.o];exact ho
set_option maxRecDepth 100000 in
theorem Aap (A:Option Addr)(n cap:Nat)(l:List Nat)(w:World)(h:Ak w A 1 ptC l)(hl:l.length=n)(hA:n=0->A=none/\cap=0) :
  Calls prog 191 #[.slice A n cap] w (Aak 117 (l.map ptV) w):=by
 obtain⟨h0,hx⟩:=h;rcases hx with hx|⟨b,rfl,hc⟩
 ·subst hx;simp at hl;subst hl;obtain⟨rfl,rfl⟩:=hA rfl;have a1:∀W:World,(binOp .eql 124 (.slice none 0 0) (.slice none 0 0)).run prog W=.ok (.bool true) W:=fun W=>Go.Lib.run_eql_slice_nil (P:=prog) (w:=W) (h:=underlying124) ..
  go_enter func191,ntmps191
  go_wp2_with fail
  go_ret
  exact⟨_,rfl,jF _ _,Io _ _ _⟩
 ·have hn:n≠0:=fun h=>by have:=(hA h).1;cases this
  obtain⟨i0,a2,a6,a7,a8⟩:=Qm;have a1:∀W:World,(binOp .eql 124 (.slice (some b) n cap) (.slice none 0 0)).run prog W=.ok (.bool false) W:=fun W=>Go.Lib.run_eql_slice_nil (P:=prog) (w:=W) (h:=underlying124) ..
  have HH:=hd (fun(i:Nat) (x:Nat) (hi:l[i]? = some x)=>(by have:=hc i x hi 0 _ rfl;rw[Nat.mul_one,Nat.add_zero] at this;exact this:w.cell? ⟨b,i,none⟩=some (ptV x)));have HL:=hd hl
  have aa:b<w.heap.size:=by
   obtain⟨x,hx⟩:∃x,l[0]? = some x:=⟨_,jJ (by omega)⟩;exact jB w _ (HH.o 0 x hx)
  clear hc hA;go_enter func191,ntmps191
  go_wp2_with (
   refine wpList_append_lies _ rfl _ _ 124 rfl w.heap.size 117 i0 _ 1 8 underlying124 a2 a6 a7 a8 rfl (by decide) _ 0 [] rfl ?c0 ⟨b,0,none⟩ n cap (l.map ptV) rfl (by simp;exact HL.o) ?c1 ?c2 (by omega) ?c3 ?c4 ?c5 _ rfl ?_
   case c0=>exact⟨rfl,.inr ⟨w.heap.size,0,#[],rfl,jD _,by show(w.heap.push _)[w.heap.size]? = _;simp,jD _,by decide,by simp,rfl⟩⟩
   case c1=>
    intro i x hx;rw[List.getElem?_map] at hx;cases hy:l[i]? with
    | none=>rw[hy] at hx;cases hx
    | some y=>
     rw[hy] at hx;cases hx
     rw[Addr.add_mk,Nat.zero_add];exact((jF [] w).alloc _).held (HH.o i y hy) (by simp)
   case c2=>intro u hu;obtain⟨y,-,rfl⟩:=List.mem_map.1 hu;rfl
   case c3=>unfold maxLen;omega
   case c4=>omega
   case c5=>simp
   intro g c8 w8 ho hg ha hlt;have HX:=hd (And.intro ho (And.intro hg ha));clear ho hg ha hlt)
  go_ret
  obtain⟨ho,hg,ha⟩:=HX.o;rw[Nat.zero_add,List.nil_append] at ho;refine⟨_,rfl,((jF [] w).alloc _).grown hg (fun k hk=>.inr ?_),?_⟩
  ·cases hk;exact jD _
  ·unfold Ed;rw[List.length_map,HL.o];exact ho
section
def RW (f:Addr->Value->Prop)(w w':World):Prop:=Dw w w'/\∀(p:Addr) (u:Value),w.cell? p=some u->w'.cell? p=some u\/∃y,w'.cell? p=some y/\f p y
section
variable {f:Addr->Value->Prop} {a b c w w':World}
theorem RW.of_ext (h:Ext [] w w'):RW f w w':=⟨Dw.of_ext h,fun p u hp=>.inl (h.held hp (jH))⟩
theorem RW.trans (h:RW f a b)(k:RW f b c):RW f a c:=⟨h.1.trans k.1,fun p u hp=>by
 rcases h.2 p u hp with h1|⟨y,h1,h2⟩
 ·exact k.2 p u h1
 ·rcases k.2 p y h1 with h3|h3
  ·exact .inr ⟨y,h3,h2⟩
  ·exact .inr h3⟩
theorem RW.held (h:RW f w w'){p:Addr}{u:Value}(hp:w.cell? p=some u)(hf:∀y,f p y->y=u):w'.cell? p=some u:=by
 rcases h.2 p u hp with h1|⟨y,h1,h2⟩
 ·exact h1
 ·rw[h1,hf y h2]
theorem RW.setRow {g:Nat}{cs old:Array Value}{t:TypeId}(hg:w.heap[g]? = some (.cells old t (0,0)))(hs:cs.size=old.size)(h1:∀(i:Nat) (u:Value),old[i]? = some u->cs[i]? = some u\/∃y,cs[i]? = some y/\f ⟨g,i,none⟩ y):RW f w (w.setRow g cs):=⟨Dw.setRow g cs old t hg hs,fun p u hp=>by
 obtain⟨b,o,a1⟩:=p;by_cases hb:b=g
 ·subst hb;cases a1 with
  | none=>
   rw[cell_of_row w b o old t (0,0) hg] at hp;rw[cell_setRow_same w b o old cs t (0,0) hg];exact h1 o u hp
  | some q=>
   exfalso
   simp[World.cell?,hg] at hp
 ·exact .inl (by rw[cell_setRow_other w g cs _ hb];exact hp)⟩
theorem Dg {w:World}{base:Nat}{e:TypeId}{s n:Nat}{v:Value}{xs:List Value}(h:w.ownsRow base e s v n xs){g:Nat}(hg:v.ownBlock=some g){i:Nat}{x:Value}(hx:xs[i]? = some x):w.cell? ⟨g,i,none⟩=some x:=by
 obtain⟨hl,h⟩:=h;rcases h with⟨rfl,rfl⟩|⟨b,cap,a1,rfl,hb,a2,h1,h2,h3,h4⟩
 ·cases hg
 ·cases hg
  rw[cell_of_row w b i a1 e (0,0) a2,<-Array.getElem?_toList];have hi:=(ils hx).1;rw[<-h4,List.getElem?_take] at hx;split at hx
  ·exact hx
  ·cases hx
theorem Ho {base:Nat}{e:TypeId}{s n:Nat}{v:Value}{xs:List Value}(h:w.ownsRow base e s v n xs)(hR:RW f w w')(hf:∀(g i:Nat) (x y:Value),v.ownBlock=some g->xs[i]? = some x->f ⟨g,i,none⟩ y->y=x):w'.ownsRow base e s v n xs:=by
 have hh:=h;obtain⟨hl,h⟩:=h;refine⟨hl,?_⟩
 rcases h with h|⟨b,cap,a6,rfl,hb,a7,h1,h2,h3,h4⟩
 ·exact .inl h
 ·obtain⟨a1,a2,hz⟩:=hR.1 b a6 e a7;refine .inr ⟨b,cap,a1,rfl,hb,a2,h1,h2,hz.trans h3,?_⟩
  have hn:n*s<=cap*s:=Nat.mul_le_mul_right s h1;refine List.ext_getElem? fun i=>?_
  by_cases hi:i<xs.length
  ·have hx:=jJ hi;have hc:=hR.held (Dg hh rfl hx) (fun y hy=>hf b i _ y rfl hx hy);rw[cell_of_row w' b i a1 e (0,0) a2,<-Array.getElem?_toList] at hc;rw[List.getElem?_take,ijp (by omega),hx];exact hc
  ·have h5:(a1.toList.take (n*s)).length<=i:=by rw[List.length_take,Array.length_toList];omega
   rw[List.getElem?_eq_none h5,List.getElem?_eq_none (by omega)]
end
theorem Aaq (l xs:List Value)(m:Nat)(hm:m+xs.length<=l.length)(i:Nat)(u:Value)(h:l[i]? = some u):(l.take m ++ xs ++ l.drop (m+xs.length))[i]? = some u\/∃j y,i=m+j/\xs[j]? = some y/\(l.take m ++ xs ++ l.drop (m+xs.length))[i]? = some y:=by
 have hl:(l.take m).length=m:=by rw[List.length_take];omega
 by_cases h1:i<m
 ·left
  rw[jP,List.getElem?_append_left (by omega),List.getElem?_take,ijp h1];exact h
 ·by_cases h2:i<m+xs.length
  ·right
   have hj:i-m<xs.length:=by omega
   refine⟨i-m,xs[i-m],by omega,jJ hj,?_⟩
   rw[jP,jM (by omega),hl,List.getElem?_append_left hj];exact jJ hj
  ·left
   rw[jM (by simp;omega),List.getElem?_drop];simp only[jG,hl];rw[show m+xs.length+(i-(m+xs.length))=i by omega];exact h
theorem Ng (f:Addr->Value->Prop)(w:World)(t ty:TypeId)(base:Nat)(e:TypeId)(i:TypeInfo)(z:Value)(size bytes:Nat)(ht:prog.underlying t=some (.slice e))(hi:prog.info? e=some i)(hz:i.zero=some z)
  (hsize:i.size=size) (hby:i.bytes=bytes) (hzs:z.cells.size=size) (hs0:0<size)
  (v:Value) (n:Nat) (xs:List Value) (hown:w.ownsRow base e size v n xs) (b c:Nat) (news:List Value) (hnl:news.length=size)
  (hnews:∀j u,news[j]? = some u->w.cell? ⟨b,j,none⟩=some u) (hone:∀u∈news,u.oneCell'=true)
  (h63:n+1<=maxLen) (hbytes:(n+1)*bytes<=140737488355328) (hbase:base<=w.heap.size)
  (hf:∀g j u,v.ownBlock=some g->news[j]? = some u->f ⟨g,n*size+j,none⟩ u) :
  ∃g cap w',(Builtin.append_ #[t,t] ty #[v,.slice (some b) 1 c]).run prog w=.ok (.slice (some ⟨g,0,none⟩) (n+1) cap) w'/\
   w'.ownsRow base e size (.slice (some ⟨g,0,none⟩) (n+1) cap) (n+1) (xs ++ news)/\w.grownBy w' v.ownBlock/\RW f w w'/\(v.ownBlock=some g\/g=w.heap.size)/\g<w'.heap.size:=by
 have ab:news.length=1*size:=by omega
 have hnews':∀j u,news[j]? = some u->w.cell? ((⟨b,0,none⟩:Addr).add j)=some u:=fun j u hj=>by
  rw[Addr.add_mk,Nat.zero_add];exact hnews j u hj
 obtain⟨g,cap,w',hr,ho,hg,ae,af⟩:=run_append_lies (P:=prog) w t ty base e i z size bytes ht hi hz hsize hby hzs hs0 v n xs hown ⟨b,0,none⟩ 1 c news ab hnews' hone (by decide) h63 hbytes hbase _ rfl;refine⟨g,cap,w',hr,ho,hg,?_,ae,af⟩
 have hl:news.length=1*i.size:=by rw[hsize];exact ab
 have ah:=hown.1;rcases hown.2 with⟨rfl,rfl⟩|⟨bb,cp,a6,rfl,hb,ac,ai,aj,ag,ak⟩
 ·have a7:=run_append_nil (P:=prog) w t ty e i z ht hi hz ⟨b,0,none⟩ 1 c news hl hnews' (by omega) (by omega) (by rw[hby];omega);have h3:=hr.symm.trans a7;injection h3 with _ e2;rw[e2];exact RW.of_ext ((jF [] w).drew.alloc _)
 ·by_cases a2:n+1<=cp
  ·have a1:(n+1)*size<=cp*size:=Nat.mul_le_mul_right size a2;rw[Nat.succ_mul] at a1;have a8:n*i.size+news.length<=a6.size:=by rw[hsize,ag,hnl];exact a1
   have a7:=run_append_room (P:=prog) w t ty e i ht hi bb n cp a6 ac ⟨b,0,none⟩ 1 c news hl hnews' hone a2 a8;have h3:=hr.symm.trans a7;injection h3 with _ e2;rw[e2]
   have ad:((a6.toList.take (n*i.size) ++ news ++ a6.toList.drop (n*i.size+news.length)).toArray).size=a6.size:=by
    simp only[List.size_toArray,jG,List.length_take,List.length_drop,Array.length_toList];omega
   refine RW.setRow ac ad fun i' u hi'=>?_
   rcases Aaq a6.toList news (n*i.size) (by rw[Array.length_toList];exact a8) i' u (by simpa using hi') with h1|⟨j,y,h1,h2,h4⟩
   ·left;simpa using h1
   ·right
    refine⟨y,by simpa using h4,?_⟩
    rw[h1,hsize];exact hf bb j y rfl h2
  ·have aa:∀j u,xs[j]? = some u->w.cell? ((⟨bb,0,none⟩:Addr).add j)=some u:=hown.cells (g:=bb) rfl;have a7:=run_append_grow (P:=prog) w t ty e i z ht hi hz ⟨bb,0,none⟩ n cp xs (by rw[hsize];exact hown.1) aa ⟨b,0,none⟩ 1 c news hl hnews' (by omega) (by simp only[maxLen] at h63;omega) (growslice_fits (by omega) (by rw[hby];exact hbytes));have h3:=hr.symm.trans a7;injection h3 with _ e2;rw[e2];exact RW.of_ext ((jF [] w).drew.alloc _)
def JW (w0:World)(T:List Nat)(f:Addr->Value->Prop)(_:Nat)(w:World):Prop:=Ext T w0 w/\RW f w0 w
theorem JW.ext {w0 w w':World}{T:List Nat}{f:Addr->Value->Prop}{k l:Nat}(h:JW w0 T f k w)(hE:Ext [] w w'):JW w0 T f l w':=⟨h.1.trans hE.nil,h.2.trans (RW.of_ext hE)⟩
theorem Cs (w:World)(b:Nat)(x:Value)(h:w.cell? ⟨b,0,none⟩=some x):∀j u,[x][j]? = some u->w.cell? ⟨b,j,none⟩=some u:=fun j u hj=>by
 match j,hj with
 | 0,hj=>cases hj;exact h
def Aar (B:Nat)(t:TypeId)(xs:List Value):Ba:=⟨Value,.slice none 0 0,fun v=>v,fun v w=>w.ownsRow B t 1 v xs.length xs⟩
def Aq (B:Nat)(xs:List Value):Ba:=⟨Nat,0,fun b=>.slice (some ⟨b,0,none⟩) 1 1,fun b w=>B<=b/\∀j u,xs[j]? = some u->w.cell? ⟨b,j,none⟩=some u⟩
def Bo (B:Nat)(t:TypeId)(s n:Nat)(xs:List Value)(L:Nat->Prop):Ba:=⟨Nat×Nat,(0,0),fun u=>.slice (some u.1) (n+1) u.2,fun u w=>w.ownsRow B t s (.slice (some u.1) (n+1) u.2) (n+1) xs/\L u.1⟩
theorem Aar.stays {B:Nat}{t:TypeId}{xs:List Value}{f:Addr->Value->Prop}(hf:∀(g i:Nat) (x y:Value),xs[i]? = some x->f ⟨g,i,none⟩ y->y=x):∀y w w',RW f w w'->(Aar B t xs).V y w->(Aar B t xs).V y w':=fun y w w' h k=>Ho k h fun g i x y _=>hf g i x y
theorem Aq.stays {B:Nat}{xs:List Value}{f:Addr->Value->Prop}(hf:∀(b j:Nat) (u y:Value),B<=b->xs[j]? = some u->f ⟨b,j,none⟩ y->y=u):∀y w w',RW f w w'->(Aq B xs).V y w->(Aq B xs).V y w':=fun b w w' h ⟨k0,k⟩=>⟨k0,fun j u hj=>h.held (k j u hj) fun y hy=>hf b j u y k0 hj hy⟩
theorem Bo.stays {B:Nat}{t:TypeId}{s n:Nat}{xs:List Value}{L:Nat->Prop}{f:Addr->Value->Prop}(hf:∀(g i:Nat) (x y:Value),L g->xs[i]? = some x->f ⟨g,i,none⟩ y->y=x):∀y w w',RW f w w'->(Bo B t s n xs L).V y w->(Bo B t s n xs L).V y w':=fun u w w' h ⟨k,k1⟩=>⟨Ho k h fun g i x y hg=>by cases hg;exact hf _ i x y k1,k1⟩
theorem rgW {id:Nat}{Q:Exit->Act->World->Prop}{a:Act}{w:World}{l:List Oper}(p:Nat)(T:List Nat)(f:Addr->Value->Prop)(ks:List (Nat×Ba))(hs:Am (Bi ks) (RW f))(h:Bj prog l.toArray (JW w T f) (RW f) (Bi ks) (fun a w=>wpList prog l.toArray Q (l.drop p) a w) 0 (l.take p) a (fun _ _=>True))(hm:(prog).follows .mixedOrders=true:=by kernel_rfl)(hB:Ir l.toArray p=true:=by kernel_rfl):(Code.region id l.toArray true).wp prog Q a w:=
 Cu p (JW w T f) (RW f) (Bi ks) hm hB (fun _ _ h=>h) hs ⟨(jF _ _).drew,RW.of_ext (jF _ _).drew⟩ h
section
variable {P:Program} {ops:Array Oper} {S:Nat->Option Ba} {Q:Act->World->Prop} {k:Nat} {o:Oper} {rest:List Oper} {a:Act} {F:Nat->World->Prop} {w0:World} {T:List Nat} {f:Addr->Value->Prop}
theorem Lu (s:Ba)(hS:S k=some s)(hw:Region.wanted o (yielded ops a.tmps)=true)
  (hh:∃(g:FuncId) (a1:Array Value),(∀w,(execOp a.eval o).run P w=.ok (.enter g a1) w)/\
   (∀w n,JW w0 T f (n+1) w->(∀e∈o.after,Region.binds .any e=true->F e.on w)->Calls P g a1 w fun e w'=>∃x,e=.returned (s.f x)/\s.V x w'/\Ext [] w w'))
  (h:∀x:s.α,Bj P ops (JW w0 T f) (RW f) S Q (k+1) rest (a.put o.dst (s.f x)) (upd F k (s.V x))):Bj P ops (JW w0 T f) (RW f) S Q k (o :: rest) a F:=by
 obtain⟨g,a1,hr,hu⟩:=hh;refine Fq s hS hw ⟨g,a1,hr,fun w n hJ hf=>(hu w n hJ hf).mono ?_⟩ h
 rintro e w' ⟨x,he,hV,hE⟩;exact⟨x,he,hV,JW.ext hJ hE,RW.of_ext hE⟩
theorem Eg (s:Ba)(hS:S k=some s)(hw:Region.wanted o (yielded ops a.tmps)=true)
  (hr:∀w n,JW w0 T f (n+1) w->(∀e∈o.after,Region.binds .any e=true->F e.on w)->∃x ob,(execOp a.eval o).run P w=.ok (.value (s.f x)) (w.alloc ob)/\s.V x (w.alloc ob))
  (h:∀x:s.α,Bj P ops (JW w0 T f) (RW f) S Q (k+1) rest (a.put o.dst (s.f x)) (upd F k (s.V x))):Bj P ops (JW w0 T f) (RW f) S Q k (o :: rest) a F:=by
 refine Hl s hS hw (fun w n hJ hf=>?_) h
 obtain⟨x,ob,hx,hV⟩:=hr w n hJ hf;have hE:Ext [] w (w.alloc ob):=(jF _ _).alloc _;exact⟨x,_,hx,hV,JW.ext hJ hE,RW.of_ext hE⟩
end
section
variable {ops:Array Oper} {S:Nat->Option Ba} {Q:Act->World->Prop} {k:Nat} {o:Oper} {rest:List Oper} {a:Act} {F:Nat->World->Prop} {w0:World} {T:List Nat} {f:Addr->Value->Prop}
theorem Lv (B b:Nat)(t:TypeId)(e:TypeId)(i:TypeInfo)(z:Value)(size bytes:Nat)(v:Value)(n c:Nat)(xs news:List Value)(L:Nat->Prop)(s x:Operand)
  (hS:S k=some (Bo B e size n (xs ++ news) L)) (hgd:o.guard=none) (ho:o.op=.call {callee:=.builtin .append,args:=#[s,x],argTypes:=#[t,t] })
  (ht:prog.underlying t=some (.slice e)) (hi:prog.info? e=some i) (hz:i.zero=some z) (hsize:i.size=size) (hby:i.bytes=bytes) (hzs:z.cells.size=size) (hs0:0<size)
  (hs:a.eval s=v) (hx:a.eval x=.slice (some b) 1 c) (hnl:news.length=size) (hone:∀u∈news,u.oneCell'=true)
  (hr:∀w n',JW w0 T f (n'+1) w->(∀e∈o.after,Region.binds .any e=true->F e.on w)->w.ownsRow B e size v n xs/\∀j u,news[j]? = some u->w.cell? ⟨b,j,none⟩=some u)
  (hB:B<=w0.heap.size) (hT:∀g,v.ownBlock=some g->B<=g->g∈T\/w0.heap.size<=g) (hL:∀g,(v.ownBlock=some g/\B<=g)\/w0.heap.size<=g->L g)
  (hf:∀g j u,v.ownBlock=some g->B<=g->news[j]? = some u->f ⟨g,n*size+j,none⟩ u)
  (h63:n+1<=maxLen) (hbytes:(n+1)*bytes<=140737488355328)
  (h:∀u:Nat×Nat,Bj prog ops (JW w0 T f) (RW f) S Q (k+1) rest (a.put o.dst (.slice (some u.1) (n+1) u.2)) (upd F k ((Bo B e size n (xs ++ news) L).V u))) :
  Bj prog ops (JW w0 T f) (RW f) S Q k (o :: rest) a F:=by
 refine Hl _ hS (by simp[Region.wanted,hgd]) (fun w m hJ hF=>?_) h
 obtain⟨hR,hn⟩:=hr w m hJ hF;obtain⟨g,cap,w',a1,a6,hg,a2,a7,a8⟩:=Ng f w t o.type B e i z size bytes ht hi hz hsize hby hzs hs0 v n xs hR b c news hnl hn hone h63 hbytes (nt hB hJ.1.size) (fun g j u hg hu=>hf g j u hg (Ad hR g hg) hu);have hE:Ext T w0 w':=Ext.step hJ.1 (Ext.grown (S:=v.ownBlock.toList) (jF _ w) hg fun q hq=>.inl (by rw[hq];simp)) fun x hx=>hT x (jC.1 hx) (Ad hR x (jC.1 hx))
 refine⟨(g,cap),w',?_,⟨a6,hL g (a7.imp (fun h=>⟨h,Ad hR g h⟩) fun h=>by have:=hJ.1.size;omega)⟩,⟨hE,hJ.2.trans a2⟩,a2⟩
 unfold execOp;simp only[ho,resolve,invoke,builtin,Sem.run_bind,Sem.run_pure,Result.andThen_ok,List.map_toArray,List.map_cons,List.map_nil,hs,hx,a1];rfl
end
end
end Go.Proofs.YtfppibmloloakaaGreatDoor
