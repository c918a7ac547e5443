import Derived.Test.YtfppibmloloakaaGreatDoorK06
import Derived.Great.BuildSlice
import Derived.Deep.MidRow
namespace Go.Proofs.YtfppibmloloakaaGreatDoor
open Go.RowKit Go.Proofs.Tryz
set_option linter.all false
section
structure Ry (w:World)(cb B:Nat)(b0 b1 b2 sv av:Value)(L:List Nat)(AL:List Value):Prop where
 blk:Blk w cb 174 #[b0,b1,b2,sv,av]
 st:Ed w B 117 sv (L.map ptV)
 ar:Ed w B 124 av AL
def TS (cb:Nat)(sv av:Value):List Nat:=cb :: (sv.ownBlock.toList ++ av.ownBlock.toList)
theorem Ry.keep {w w':World}{cb B:Nat}{b0 b1 b2 sv av:Value}{L:List Nat}{AL:List Value}(h:Ry w cb B b0 b1 b2 sv av L AL){S:List Nat}(hE:Ext S w w')(hS:∀x∈TS cb sv av,x∉S):Ry w' cb B b0 b1 b2 sv av L AL:=
 ⟨h.blk.ext hE (hS cb (jO ..)),Df h.st hE fun b hb=>hS b (jI _ (jN.2 (.inl (by rw[hb];simp)))),Df h.ar hE fun b hb=>hS b (jI _ (jN.2 (.inr (by rw[hb];simp))))⟩
theorem Ry.ts {w:World}{cb B:Nat}{b0 b1 b2 sv av:Value}{L:List Nat}{AL:List Value}(h:Ry w cb B b0 b1 b2 sv av L AL)(hB:B<=cb):∀x∈TS cb sv av,B<=x/\x<w.heap.size:=fun x hx=>by
 rcases jE.1 hx with rfl|hx
 ·exact⟨hB,h.blk.lt⟩
 ·rcases jN.1 hx with hx|hx
  ·exact Bt h.st (jC.1 hx)
  ·exact Bt h.ar (jC.1 hx)
def Gj (n:Nat)(w:World)(gs:List Nat)(names:List ByteArray):Prop:=gs.length=names.length/\∀(i g:Nat) (nm:ByteArray),gs[i]? = some g->names[i]? = some nm->∃pb po:Nat,pb<n/\w.cell? ⟨g,0,none⟩=some (.pointer (some ⟨pb,po,none⟩))/\w.cell? ⟨pb,po+1,none⟩=some (.string nm)
theorem Gj.n {n:Nat}{w:World}{gs:List Nat}{names:List ByteArray}(h:Gj n w gs names):Ru w gs names:=⟨h.1,fun i g nm hg hn=>by
 obtain⟨pb,po,-,h1,h2⟩:=h.2 i g nm hg hn;exact⟨pb,po,h1,h2⟩⟩
theorem Gj.ext {n:Nat}{w w':World}{gs:List Nat}{names:List ByteArray}{S:List Nat}(h:Gj n w gs names)(hE:Ext S w w')(hS:∀x∈S,n<=x)(hg:∀g∈gs,g∉S):Gj n w' gs names:=⟨h.1,fun i g nm hgi hn=>by
 obtain⟨pb,po,h0,h1,h2⟩:=h.2 i g nm hgi hn;exact⟨pb,po,h0,hE.held h1 (hg g (ilm hgi)),hE.held h2 fun hm=>by have:=hS _ hm;simp only at this;omega⟩⟩
theorem Gj.snoc {n:Nat}{w:World}{gs:List Nat}{names:List ByteArray}(h:Gj n w gs names){g pb po:Nat}{nm:ByteArray}(h0:pb<n)(h1:w.cell? ⟨g,0,none⟩=some (.pointer (some ⟨pb,po,none⟩)))(h2:w.cell? ⟨pb,po+1,none⟩=some (.string nm)):Gj n w (gs ++ [g]) (names ++ [nm]):=⟨by simp[h.1],fun i g' nm' hg hn=>by
 rcases Nat.lt_or_ge i gs.length with hi|hi
 ·rw[List.getElem?_append_left hi] at hg;rw[List.getElem?_append_left (by rw[<-h.1];exact hi)] at hn;exact h.2 i g' nm' hg hn
 ·have a1:=(ils hg).1;have a2:i=gs.length:=by simp at a1;omega
  subst a2;rw[jM (jD _),Nat.sub_self] at hg;rw[h.1,jM (jD _),Nat.sub_self] at hn;cases hg
  cases hn
  exact⟨pb,po,h0,h1,h2⟩⟩
theorem Gj.lt {n:Nat}{w:World}{gs:List Nat}{names:List ByteArray}(h:Gj n w gs names):∀g∈gs,g<w.heap.size:=fun g hg=>by
 obtain⟨i,hi⟩:=List.getElem?_of_mem hg;have hl:=(ils hi).1;obtain⟨pb,po,-,h1,-⟩:=h.2 i g _ hi (jJ (by rw[<-h.1];exact hl));exact jB w _ h1
def Afv (l:List St)(names:List ByteArray)(no cb B:Nat)(b0 b1 b2 sv av:Value)(L:List Nat)(AL:List Value)(xs:List Int)(gl X:List Nat)(w:World)(e:Ending)(w':World):Prop:=
 ∃(v sv' av':Value) (L':List Nat) (AL':List Value) (gs:List Nat),e=.returned v/\Ext (TS cb sv av) w w'/\Ry w' cb B b0 b1 b2 sv' av' L' AL'/\L'.length=no+Ab l/\AL'.length=no+Ab l/\(∀(i g:Nat),L[i]? = some g->L'[i]? = some g)/\(∀(i:Nat) (g:Value),AL[i]? = some g->AL'[i]? = some g)/\
  (∀x∈TS cb sv' av',x∈TS cb sv av\/w.heap.size<=x)/\Ed w' w.heap.size 117 v (gs.map ptV)/\(∀b,v.ownBlock=some b->b∉TS cb sv' av')/\gs.length=l.length/\
  ∀(i g:Nat) (s:St),gs[i]? = some g->l[i]? = some s->CSt w' w'.heap.size (X ++ TS cb sv' av') L' AL' names (xs ++ [(i:Int)]) gl (no+Ab (l.take i)) g s
def Acj (l:List St):Prop:=∀(pb cap:Nat) (lA:Option Addr) (LA:Option Addr) (ln lc:Nat) (gl:List Nat) (PA:Option Addr) (pn pc:Nat) (xs:List Int) (names:List ByteArray) (nb no cb B:Nat) (b0 b1 b2 sv av:Value) (L:List Nat) (AL:List Value) (X:List Nat) (w0 w:World),
 Ak w0 lA 21 stC l->(∀s∈l,Gc w0 s)->(∀s∈l,Fd nb names s)->Ext [] w0 w->w0.heap.size<=B->B<=cb->
 Ak w LA 1 ptC gl->Gj w0.heap.size w gl names->gl.length=ln->(ln=0->LA=none/\lc=0)->names.length<=8->
 Ak w PA 1 inC xs->xs.length=pn->(pn=0->PA=none/\pc=0)->pn+Bk l<=100000->
 Ry w cb B b0 b1 b2 sv av L AL->L.length=no->AL.length=no->no+Ab l<=100000->
 (∀x∈X,w0.heap.size<=x/\x<w.heap.size)->(∀b o,LA=some ⟨b,o,none⟩->b∉X/\b∉TS cb sv av)->(∀g∈gl,g∉TS cb sv av)->(∀b o,PA=some ⟨b,o,none⟩->b∉TS cb sv av)->
  Calls prog 147 #[.pointer (some cb),.slice lA l.length cap,.slice LA ln lc,.slice PA pn pc] w (Afv l names no cb B b0 b1 b2 sv av L AL xs gl X w)
theorem Ack {α:Type}{w:World}{base g:Nat}{t:TypeId}{n c:Nat}{l:List α}{f:α->Value}(h:w.ownsRow base t 1 (.slice (some ⟨g,0,none⟩) n c) n (l.map f))(hl:l.length<=1000000)(cs:α->List Value)(hc:∀x,cs x=[f x]):Ak w (some ⟨g,0,none⟩) 1 cs l:=by
 refine⟨hl,.inr ⟨g,rfl,fun i x hx j v hv=>?_⟩⟩
 rw[hc] at hv;have hj:j=0:=by have:=(ils hv).1;simp at this;exact this
 subst hj;cases hv
 rw[Nat.mul_one,Nat.add_zero];exact Dg h rfl (by rw[List.getElem?_map,hx];rfl)
theorem Aka {α:Type}{w:World}{A:Option Addr}{k:Nat}{cs:α->List Value}{l:List α}(h:Ak w A k cs l)(hl:0<l.length)(hc:∀x,∃v,(cs x)[0]? = some v):∀b o,A=some ⟨b,o,none⟩->b<w.heap.size:=fun b o hA=>by
 obtain⟨b',x,h1,h2,h3⟩:=h.at hl;rw[hA] at h1;cases h1
 obtain⟨v,hv⟩:=hc x;exact jB w _ (h3 0 v hv)
theorem Yb {α:Type}(cs:α->List Value)(s:Nat)(hs:∀x,(cs x).length=s):∀(l:List α) (i:Nat) (x:α),l[i]? = some x->∀(j:Nat) (v:Value),(cs x)[j]? = some v->(l.flatMap cs)[i*s+j]? = some v
 | [],i,x,hx,j,v,hv=>by simp at hx
 | a :: l,0,x,hx,j,v,hv=>by
  cases hx
  rw[List.flatMap_cons,Nat.zero_mul,Nat.zero_add,List.getElem?_append_left (ils hv).1];exact hv
 | a :: l,i+1,x,hx,j,v,hv=>by
  rw[List.flatMap_cons,Nat.succ_mul,jM (by rw[hs];omega),hs,show i*s+s+j-s=i*s+j by omega];exact Yb cs s hs l i x (by simpa using hx) j v hv
theorem Afw {α:Type}(cs:α->List Value)(s:Nat)(hs:∀x,(cs x).length=s)(l:List α):(l.flatMap cs).length=l.length*s:=by
 induction l with
 | nil=>simp
 | cons a l ih=>rw[List.flatMap_cons,jG,hs,ih,List.length_cons,Nat.succ_mul];omega
theorem Afx {α:Type}{w:World}{base g:Nat}{t:TypeId}{n c s:Nat}{l:List α}(cs:α->List Value)(hs:∀x,(cs x).length=s)(h:w.ownsRow base t s (.slice (some g) n c) n (l.flatMap cs))(hl:l.length<=1000000):Ak w (some g) s cs l:=
 ⟨hl,.inr ⟨g,rfl,fun i x hx j v hv=>Dg h rfl (Yb cs s hs l i x hx j v hv)⟩⟩
theorem Yc {α:Type}{w:World}{base:Nat}{t:TypeId}{n s:Nat}{v:Value}{l:List α}(cs:α->List Value)(hs:∀x,(cs x).length=s)(h:w.ownsRow base t s v n (l.flatMap cs))(hn:l.length=n)(hl:n<=1000000):∃A c,v=.slice A n c/\Ak w A s cs l/\∀b o,A=some ⟨b,o,none⟩->base<=b/\b<w.heap.size:=by
 have hh:=h;rcases h.2 with⟨rfl,rfl⟩|⟨g,cap,a1,rfl,hb,hg,-⟩
 ·exact⟨none,0,rfl,by rw[List.length_eq_zero_iff.1 hn];exact Ak.nil _ _ _ _,fun b o h=>by cases h⟩
 ·exact⟨some g,cap,rfl,Afx cs hs hh (by omega),fun b o h=>by cases h;exact⟨hb,(Array.getElem?_eq_some_iff.1 hg).1⟩⟩
def Gk (C:Array Value)(o:Nat):List Value->Array Value
 | []=>C
 | v :: r=>Gk (C.setIfInBounds o v) (o+1) r
theorem Blk.many {g:Nat}{t:TypeId}:∀(vs:List Value) (o:Nat) (C:Array Value) (w:World),Blk w g t C->Blk (w.setCells g o vs) g t (Gk C o vs)
 | [],_,_,_,h=>h
 | v :: r,o,C,w,h=>Blk.many r (o+1) _ _ (h.set_ o v)
theorem Ext.many {S:List Nat}{a:World}{g:Nat}(hg:g∈S\/a.heap.size<=g):∀(vs:List Value) (o:Nat) (w:World),Ext S a w->Ext S a (w.setCells g o vs)
 | [],_,_,h=>h
 | v :: r,o,w,h=>Ext.many hg r (o+1) _ (h.setAt hg)
theorem Er {P:Program}{o:Oper}{ty:TypeId}{x y:Operand}(ho:o.op=.store ty x y)(ev:Operand->Value)(w:World)(g off:Nat)(arr C:Array Value)(t:TypeId)(hx:ev x=.pointer (some ⟨g,off,none⟩))(hy:ev y=.agg arr)(hB:Blk w g t C)(hl:off+arr.size<=C.size)
  (hi:(P.info? ty).map (·.size)=some arr.size) (h1:arr.all (·.oneCell')=true):(execOp ev o).run P w=.ok .skip (w.setCells g off arr.toList):=by
 unfold execOp;simp only[ho,hx,hy,Sem.run_bind,run_storeAt_mid w g off ty arr (fun j hj=>⟨by rw[hB.cell,Array.getElem?_eq_getElem (by omega)];rfl,hB.frozen _⟩) hi h1,Result.andThen_ok];rfl
theorem Afy (pb po:Nat)(d many:Int)(cv bv:Value)(st:Int)(pv:Value)(b b':Int)(c c':Nat->Int)(vv:Value)(fr en:Int):Gk (Ck pb po d many cv bv st pv b c vv fr en) 7 (Bl b' c').toList=Ck pb po d many cv bv st pv b' c' vv fr en:=by
 unfold Ck Bl;simp[Gk]
theorem Acl:∃i,prog.info? 126=some i/\i.zero=some (.agg (Bl 0 fun _=>0))/\i.size=9/\i.bytes=72:=info_parts (show((prog).info? 126).map (fun i=>(i.zero,i.size,i.bytes))=some (some (.agg (Bl 0 fun _=>0)),9,72) by kernel_rfl)
theorem Afz (w:World)(b:Int)(c:Nat->Int):(Instr.buildSlice 123 1 #[(0,.agg (Bl b c))]).run prog w=.ok (.slice (some w.heap.size) 1 1) (w.alloc (.cells (Bl b c) 126)):=by
 obtain⟨i0,a2,a6,a1,a7⟩:=Acl;refine run_buildSlice w _ _ 1 _ _ i0 _ underlying123 a2 a6 (by rw[a1];decide) (by rw[a1];decide) ?_
 rw[a1];have hz:((Array.range (1*9)).map (fun x=>(Value.agg (Bl 0 fun x=>0)).cells[x % (Value.agg (Bl 0 fun x=>0)).cells.size]!))=Bl 0 fun _=>0:=by kernel_rfl
 rw[hz];simp[Instr.fill,Bl,Value.cells]
theorem As {P:Program}{o:Oper}{t:TypeId}{n i:Nat}{x:Operand}(ho:o.op=.buildSlice t n #[(i,x)])(ev:Operand->Value)(w w':World)(v y:Value)(hx:ev x=y)(h:(Instr.buildSlice t n #[(i,y)]).run P w=.ok v w'):(execOp ev o).run P w=.ok (.value v) w':=by
 unfold execOp;simp only[ho,Sem.run_bind,List.map_toArray,List.map_cons,List.map_nil,hx,h,Result.andThen_ok];rfl
structure Lw (wq wr:World)(cb B:Nat)(b0 b1 b2 sv av:Value)(T0:List Nat)(sb:Nat)(sv' av':Value)(L':List Nat)(AL':List Value)(arr:Array Value)(PA:Option Addr)(path:List Int):Prop where
 ext:Ext (TS cb sv av) wq wr
 cd:Ry wr cb B b0 b1 b2 sv' av' L' AL'
 ts:∀x∈TS cb sv' av',x∈TS cb sv av\/wq.heap.size<=x
 blk:Blk wr sb 129 arr
 sb1:wq.heap.size<=sb
 sb2:sb∉TS cb sv' av'
 pa:Mz wr wr.heap.size (sb :: (T0 ++ TS cb sv' av')) PA 1 inC path
section
variable {wq wr wr':World} {cb B:Nat} {b0 b1 b2 sv av:Value} {T0:List Nat} {sb:Nat} {sv' av':Value} {L':List Nat} {AL':List Value} {arr:Array Value} {PA:Option Addr} {path:List Int}
theorem Lw.keep (h:Lw wq wr cb B b0 b1 b2 sv av T0 sb sv' av' L' AL' arr PA path)(hE:Ext [] wr wr'):Lw wq wr' cb B b0 b1 b2 sv av T0 sb sv' av' L' AL' arr PA path:=
 ⟨h.ext.trans hE.nil,h.cd.keep hE (by simp),h.ts,h.blk.ext hE (by simp),h.sb1,h.sb2,h.pa.step hE (by simp) hE.size fun x hx=>.inl hx⟩
theorem Lw.set (h:Lw wq wr cb B b0 b1 b2 sv av T0 sb sv' av' L' AL' arr PA path)(i:Nat)(v:Value)(arr':Array Value)(ha:arr.setIfInBounds i v=arr'):Lw wq (wr.setCell ⟨sb,i,none⟩ v) cb B b0 b1 b2 sv av T0 sb sv' av' L' AL' arr' PA path:=by
 have hE:Ext [sb] wr (wr.setCell ⟨sb,i,none⟩ v):=jL (.inl (by simp)) (jF [sb] wr);refine⟨h.ext.step hE fun x hx=>.inr (by rw[jA.1 hx];exact h.sb1),h.cd.keep hE fun x hx hm=>?_,h.ts,h.blk.set_' i v arr' ha,h.sb1,h.sb2,h.pa.step hE (fun x hx=>.inl (by rw[jA.1 hx];simp)) hE.size fun x hx=>.inl hx⟩
 rw[jA.1 hm] at hx;exact h.sb2 hx
theorem Lw.later (h:Lw wq wr cb B b0 b1 b2 sv av T0 sb sv' av' L' AL' arr PA path)(hB:B<=cb){S:List Nat}(hE:Ext S wr wr')(hS:∀x∈S,x=sb\/wr.heap.size<=x){arr':Array Value}(hb:Blk wr' sb 129 arr'):Lw wq wr' cb B b0 b1 b2 sv av T0 sb sv' av' L' AL' arr' PA path:=by
 have hz:=h.ext.size;have h1:=h.sb1;refine⟨h.ext.step hE fun x hx=>.inr ?_,h.cd.keep hE fun x hx hm=>?_,h.ts,hb,h.sb1,h.sb2,h.pa.step hE (fun x hx=>?_) hE.size fun x hx=>.inl hx⟩
 ·rcases hS x hx with rfl|h2
  ·exact h1
  ·omega
 ·rcases hS x hm with rfl|h2
  ·exact h.sb2 hx
  ·have:=(h.cd.ts hB x hx).2;omega
 ·rcases hS x hx with rfl|h2
  ·left;simp
  ·exact .inr h2
end
def Aij (wq:World)(cb B:Nat)(b0 b1 b2 sv av:Value)(L:List Nat)(AL:List Value)(T0:List Nat)(sb:Nat)(N0:Nat)(h:SH)(names:List ByteArray)(path:List Int)(gl:List Nat)(no pb po:Nat)(s:Value)(wr:World):Prop:=
 ∃(sv' av':Value) (L':List Nat) (AL':List Value) (CA:Option Addr) (cc:Nat) (PA:Option Addr) (pc:Nat) (vv:Value) (A':Option Addr) (c':Nat),
  s=.slice A' (Co gl h sb).length c'/\
  Hd (Lw wq wr cb B b0 b1 b2 sv av T0 sb sv' av' L' AL' (Ck pb po names.length (if h.k=1 then(Ar h:Int) else 0) (.slice CA (if h.k=2 then h.conds.length else 0) cc) (.slice none 0 0) (if h.k=3 then(no:Int) else 0) (.slice PA path.length pc) (if h.k=3 then h.at_.base else 0) (if h.k=3 then Bq names h.at_.ts else Ip) vv no (0:Nat)) PA path)/\
  Hd (L'.length=no+(if h.k=3 then 1 else 0)/\AL'.length=no+(if h.k=3 then 1 else 0))/\Hd (∀(i g:Nat),L[i]? = some g->L'[i]? = some g)/\Hd (∀(i:Nat) (g:Value),AL[i]? = some g->AL'[i]? = some g)/\
  Hd (h.k=2->Mz wr wr.heap.size (sb :: (T0 ++ TS cb sv' av')) CA 9 (lnL names) h.conds)/\
  Hd (h.k=3->∃(vb:Nat) (LA:Option Addr) (lc:Nat),vv=ptV vb/\CEx wr wr.heap.size (sb :: (T0 ++ TS cb sv' av')) names vb h.val/\L'[no]? = some sb/\AL'[no]? = some (.slice LA gl.length lc)/\Mz wr wr.heap.size (sb :: (T0 ++ TS cb sv' av')) LA 1 ptC gl)/\
  Hd (Ak wr A' 1 ptC (Co gl h sb))/\Hd ((Co gl h sb).length=0->A'=none/\c'=0)/\Hd (∀b o,A'=some ⟨b,o,none⟩->b∉sb :: (T0 ++ TS cb sv' av'))/\Hd (Gj N0 wr (Co gl h sb) (Aw names h))
section
variable {wq wr:World} {cb B:Nat} {b0 b1 b2 sv av:Value} {L:List Nat} {AL:List Value} {T0:List Nat} {sb N0:Nat} {h:SH} {names:List ByteArray} {path:List Int} {gl:List Nat} {no pb po:Nat} {sv' av':Value} {L':List Nat} {AL':List Value} {PA:Option Addr} {pc:Nat} {A':Option Addr} {c':Nat}
theorem Ak3 (hk:h.k=1)(hR:Lw wq wr cb B b0 b1 b2 sv av T0 sb sv' av' L' AL' (Ck pb po names.length (Ar h:Int) (.slice none 0 0) (.slice none 0 0) 0 (.slice PA path.length pc) 0 Ip (.pointer none) no (0:Nat)) PA path)(h1:L'.length=no/\AL'.length=no)
  (h2:∀(i g:Nat),L[i]? = some g->L'[i]? = some g) (h3:∀(i:Nat) (g:Value),AL[i]? = some g->AL'[i]? = some g) (hA:Ak wr A' 1 ptC (gl ++ [sb])) (hA2:∀b o,A'=some ⟨b,o,none⟩->b∉sb :: (T0 ++ TS cb sv' av')) (hM:Gj N0 wr (gl ++ [sb]) (names ++ [h.var])) :
  Aij wq cb B b0 b1 b2 sv av L AL T0 sb N0 h names path gl no pb po (.slice A' (gl.length+1) c') wr:=by
 have n2:¬h.k=2:=by omega
 have n3:¬h.k=3:=by omega
 have hg:Co gl h sb=gl ++ [sb]:=ijp hk;have hv:Aw names h=names ++ [h.var]:=ijp hk;refine⟨sv',av',L',AL',none,0,PA,pc,.pointer none,A',c',by rw[hg];simp,hd ?_,hd (by rw[ijn n3];exact h1),hd h2,hd h3,hd fun h=>absurd h n2,hd fun h=>absurd h n3,hd (by rw[hg];exact hA),hd (by rw[hg];simp),hd hA2,hd (by rw[hg,hv];exact hM)⟩
 rw[ijp hk,ijn n2,ijn n3,ijn n3,ijn n3];exact hR
theorem Ak4 {CA:Option Addr}{cc:Nat}(hk:h.k=2)(hR:Lw wq wr cb B b0 b1 b2 sv av T0 sb sv' av' L' AL' (Ck pb po names.length 0 (.slice CA h.conds.length cc) (.slice none 0 0) 0 (.slice PA path.length pc) 0 Ip (.pointer none) no (0:Nat)) PA path)(h1:L'.length=no/\AL'.length=no)
  (h2:∀(i g:Nat),L[i]? = some g->L'[i]? = some g) (h3:∀(i:Nat) (g:Value),AL[i]? = some g->AL'[i]? = some g) (hc:Mz wr wr.heap.size (sb :: (T0 ++ TS cb sv' av')) CA 9 (lnL names) h.conds) (hA:Ak wr A' 1 ptC gl) (hA1:gl.length=0->A'=none/\c'=0) (hA2:∀b o,A'=some ⟨b,o,none⟩->b∉sb :: (T0 ++ TS cb sv' av')) (hM:Gj N0 wr gl names) :
  Aij wq cb B b0 b1 b2 sv av L AL T0 sb N0 h names path gl no pb po (.slice A' gl.length c') wr:=by
 have n1:¬h.k=1:=by omega
 have n3:¬h.k=3:=by omega
 have hg:Co gl h sb=gl:=ijn n1;have hv:Aw names h=names:=ijn n1;refine⟨sv',av',L',AL',CA,cc,PA,pc,.pointer none,A',c',by rw[hg],hd ?_,hd (by rw[ijn n3];exact h1),hd h2,hd h3,hd fun _=>hc,hd fun h=>absurd h n3,hd (by rw[hg];exact hA),hd (by rw[hg];exact hA1),hd hA2,hd (by rw[hg,hv];exact hM)⟩
 rw[ijn n1,ijp hk,ijn n3,ijn n3,ijn n3];exact hR
theorem Ak5 {vb:Nat}(hk:h.k=3)(hR:Lw wq wr cb B b0 b1 b2 sv av T0 sb sv' av' L' AL' (Ck pb po names.length 0 (.slice none 0 0) (.slice none 0 0) no (.slice PA path.length pc) h.at_.base (Bq names h.at_.ts) (ptV vb) no (0:Nat)) PA path)(h1:L'.length=no+1/\AL'.length=no+1)
  (h2:∀(i g:Nat),L[i]? = some g->L'[i]? = some g) (h3:∀(i:Nat) (g:Value),AL[i]? = some g->AL'[i]? = some g) (hc:CEx wr wr.heap.size (sb :: (T0 ++ TS cb sv' av')) names vb h.val) (hL:L'[no]? = some sb) (hAL:AL'[no]? = some (.slice A' gl.length c')) (hA:Mz wr wr.heap.size (sb :: (T0 ++ TS cb sv' av')) A' 1 ptC gl) (hA1:gl.length=0->A'=none/\c'=0) (hM:Gj N0 wr gl names) :
  Aij wq cb B b0 b1 b2 sv av L AL T0 sb N0 h names path gl no pb po (.slice A' gl.length c') wr:=by
 have n1:¬h.k=1:=by omega
 have n2:¬h.k=2:=by omega
 have hg:Co gl h sb=gl:=ijn n1;have hv:Aw names h=names:=ijn n1;refine⟨sv',av',L',AL',none,0,PA,pc,ptV vb,A',c',by rw[hg],hd ?_,hd (by rw[ijp hk];exact h1),hd h2,hd h3,hd fun h=>absurd h n2,hd fun _=>⟨vb,A',c',rfl,hc,hL,hAL,hA⟩,hd (by rw[hg];exact hA.1),hd (by rw[hg];exact hA1),hd (fun b o h=>(hA.2 b o h).2),hd (by rw[hg,hv];exact hM)⟩
 rw[ijn n1,ijn n2,ijp hk,ijp hk,ijp hk];exact hR
end
end
section
def JK (w0:World)(T:List Nat)(f:Addr->Value->Prop)(cb ks:Nat)(r:Nat->Bool)(w:World):Prop:=(r ks=true->JW w0 T f 0 w)/\(r ks=false->Ext (cb :: T) w0 w)
def RK (f:Addr->Value->Prop)(cb ks:Nat)(j:Nat)(w w':World):Prop:=if j=ks then Ext [cb] w w' else RW f w w'
section
variable {w0 w w':World} {T:List Nat} {f:Addr->Value->Prop} {cb ks i:Nat} {r:Nat->Bool}
theorem JK.pre (h:JK w0 T f cb ks r w)(hr:r ks=true):JW w0 T f 0 w:=h.1 hr
theorem JK.all (h:JK w0 T f cb ks r w):Ext (cb :: T) w0 w:=by
 cases hr:r ks
 ·exact h.2 hr
 ·exact(h.1 hr).1.mono fun x hx=>.inl (jI _ hx)
theorem JK.offs (h:JK w0 T f cb ks r w)(hi:i≠ks):JK w0 T f cb ks (off r i) w:=by
 have e:off r i ks=r ks:=by unfold off;simp[Ne.symm hi]
 unfold JK;rw[e];exact h
theorem JK.grow (h:JK w0 T f cb ks r w)(hi:i≠ks)(hE:Ext [] w w'):JK w0 T f cb ks (off r i) w':=by
 have e:off r i ks=r ks:=by unfold off;simp[Ne.symm hi]
 unfold JK;rw[e];exact⟨fun hr=>JW.ext (h.1 hr) hE,fun hr=>(h.2 hr).trans hE.nil⟩
theorem JK.save (h:JK w0 T f cb ks r w)(hE:Ext [cb] w w'):JK w0 T f cb ks (off r ks) w':=by
 have e:off r ks ks=false:=by unfold off;simp
 unfold JK;rw[e];exact⟨(fun hr=>by cases hr),fun _=>h.all.trans (hE.mono fun x hx=>.inl (by rw[jA.1 hx];simp))⟩
theorem rgK {id:Nat}{Q:Exit->Act->World->Prop}{a:Act}{w:World}{l:List Oper}(p ks cb:Nat)(T:List Nat)(f:Addr->Value->Prop)(kk:List (Nat×Ba))(hka:decide (ks<l.length)=true)
  (hn:Bi kk ks≠none) (hG:∀oi,l.toArray[ks]? = some oi->oi.guard=none)
  (hs:∀i s j,Bi kk i=some s->j≠i->∀x w w',RK f cb ks j w w'->s.V x w->s.V x w')
  (h:Bb prog l.toArray p (JK w T f cb ks) (RK f cb ks) (Bi kk) (fun a w=>wpList prog l.toArray Q (l.drop p) a w) 0 (l.take p) a (fun _ _=>True)) (hm:(prog).follows .mixedOrders=true:=by kernel_rfl) (hB:Ir l.toArray p=true:=by kernel_rfl):(Code.region id l.toArray true).wp prog Q a w:=
 De p (JK w T f cb ks) (RK f cb ks) (Bi kk) hm hB (fun i r w hi hg hJ=>by
  have:i≠ks:=by
   rintro rfl;rcases hi with hi|⟨oi,h1,h2⟩
   ·exact hn hi
   ·exact h2 (hG oi h1)
  exact hJ.offs this) hs ⟨fun _=>⟨(jF _ _).drew,RW.of_ext (jF _ _).drew⟩,fun hr=>by
   have:ks<l.length:=of_decide_eq_true hka;simp[this] at hr⟩ h
end
section
variable {ops:Array Oper} {p:Nat} {S:Nat->Option Ba} {Q:Act->World->Prop} {k:Nat} {o:Oper} {rest:List Oper} {a:Act} {F:Nat->World->Prop} {w0:World} {T:List Nat} {f:Addr->Value->Prop} {cb ks:Nat}
theorem Jz {P:Program}(s:Ba)(hS:S k=some s)(hw:Region.wanted o (yielded ops a.tmps)=true)(hk:k≠ks)
  (hr:∀w r,Fp ops k r->JK w0 T f cb ks r w->(∀e∈o.after,Region.binds .any e=true->F e.on w)->∃x ob,(execOp a.eval o).run P w=.ok (.value (s.f x)) (w.alloc ob)/\s.V x (w.alloc ob))
  (h:∀x:s.α,Bb P ops p (JK w0 T f cb ks) (RK f cb ks) S Q (k+1) rest (a.put o.dst (s.f x)) (upd F k (s.V x))):Bb P ops p (JK w0 T f cb ks) (RK f cb ks) S Q k (o :: rest) a F:=
 Rw s hS hw (fun w ob r hg hJ=>hJ.grow hk ((jF _ _).alloc _)) (fun w ob=>by unfold RK;rw[ijn hk];exact RW.of_ext ((jF _ _).alloc _)) hr h
theorem Kb (B b:Nat)(t:TypeId)(e:TypeId)(i:TypeInfo)(z:Value)(size bytes:Nat)(v:Value)(n c:Nat)(xs news:List Value)(L:Nat->Prop)(s x:Operand)(hk:k≠ks)
  (hS:S k=some (Bo B e size n (xs ++ news) L)) (hgd:o.guard=none) (ho:o.op=.call {callee:=.builtin .append,args:=#[s,x],argTypes:=#[t,t] })
  (ht:prog.underlying t=some (.slice e)) (hi:prog.info? e=some i) (hz:i.zero=some z) (hsize:i.size=size) (hby:i.bytes=bytes) (hzs:z.cells.size=size) (hs0:0<size)
  (hs:a.eval s=v) (hx:a.eval x=.slice (some b) 1 c) (hnl:news.length=size) (hone:∀u∈news,u.oneCell'=true)
  (hr:∀w r,Fp ops k r->JK w0 T f cb ks r w->(∀e∈o.after,Region.binds .any e=true->F e.on w)->r ks=true/\w.ownsRow B e size v n xs/\∀j u,news[j]? = some u->w.cell? ⟨b,j,none⟩=some u)
  (hB:B<=w0.heap.size) (hT:∀g,v.ownBlock=some g->B<=g->g∈T\/w0.heap.size<=g) (hL:∀g,(v.ownBlock=some g/\B<=g)\/w0.heap.size<=g->L g)
  (hf:∀g j u,v.ownBlock=some g->B<=g->news[j]? = some u->f ⟨g,n*size+j,none⟩ u)
  (h63:n+1<=maxLen) (hbytes:(n+1)*bytes<=140737488355328)
  (h:∀u:Nat×Nat,Bb prog ops p (JK w0 T f cb ks) (RK f cb ks) S Q (k+1) rest (a.put o.dst (.slice (some u.1) (n+1) u.2)) (upd F k ((Bo B e size n (xs ++ news) L).V u))) :
  Bb prog ops p (JK w0 T f cb ks) (RK f cb ks) S Q k (o :: rest) a F:=by
 refine Bv _ hS (by simp[Region.wanted,hgd]) (fun w r hgo hJ hF=>?_) h
 obtain⟨a6,hR,hn⟩:=hr w r hgo hJ hF;have a1:=hJ.pre a6;obtain⟨g,cap,w',a2,a8,hg,a7,aa,ab⟩:=Ng f w t o.type B e i z size bytes ht hi hz hsize hby hzs hs0 v n xs hR b c news hnl hn hone h63 hbytes (nt hB a1.1.size) (fun g j u hg hu=>hf g j u hg (Ad hR g hg) hu);have hE:Ext T w0 w':=Ext.step a1.1 (Ext.grown (S:=v.ownBlock.toList) (jF _ w) hg fun q hq=>.inl (by rw[hq];simp)) fun x hx=>hT x (jC.1 hx) (Ad hR x (jC.1 hx))
 refine⟨(g,cap),w',?_,⟨a8,hL g (aa.imp (fun h=>⟨h,Ad hR g h⟩) fun h=>by have:=a1.1.size;omega)⟩,?_,by unfold RK;rw[ijn hk];exact a7⟩
 ·unfold execOp;simp only[ho,resolve,invoke,builtin,Sem.run_bind,Sem.run_pure,Result.andThen_ok,List.map_toArray,List.map_cons,List.map_nil,hs,hx,a2];rfl
 ·have e:off r k ks=r ks:=by unfold off;simp[Ne.symm hk]
  unfold JK;rw[e];exact⟨fun _=>⟨hE,a1.2.trans a7⟩,fun h=>by rw[a6] at h;cases h⟩
end
theorem Blk.rw {f:Addr->Value->Prop}{w w':World}{b:Nat}{t:TypeId}{C:Array Value}(h:Blk w b t C)(hR:RW f w w')(hf:∀i y,¬f ⟨b,i,none⟩ y):Blk w' b t C:=by
 obtain⟨a1,hg,hz⟩:=hR.1 b C t h
 have:a1=C:=by
  refine Array.ext_getElem? fun i=>?_
  have e1:=cell_of_row w' b i a1 t (0,0) hg;cases hC:C[i]? with
  | none=>
   have:=Array.getElem?_eq_none_iff.1 hC;exact Array.getElem?_eq_none_iff.2 (by omega)
  | some x=>
   have e2:=hR.held ((h.cell i).trans hC) (fun y hy=>absurd hy (hf i y));rw[<-e1,e2]
 subst this;exact hg
def Cp (f:Addr->Value->Prop)(cb ks:Nat)(kk:List (Nat×Ba)):Prop:=∀i s,(i,s)∈kk->∀j,j≠i->∀x w w',RK f cb ks j w w'->s.V x w->s.V x w'
section
variable {f:Addr->Value->Prop} {cb ks:Nat} {kk:List (Nat×Ba)}
theorem Cp.nil:Cp f cb ks []:=fun i s h=>by simp at h
theorem Cp.cons {i:Nat}{s:Ba}(h:∀j,j≠i->∀x w w',RK f cb ks j w w'->s.V x w->s.V x w')(k:Cp f cb ks kk):Cp f cb ks ((i,s) :: kk):=fun i' s' hm=>by
 rcases jE.1 hm with h1|h1
 ·cases h1;exact h
 ·exact k i' s' h1
theorem Cp.done (h:Cp f cb ks kk):∀i s j,Bi kk i=some s->j≠i->∀x w w',RK f cb ks j w w'->s.V x w->s.V x w':=fun i s j hk=>h i s (Fx hk) j
theorem RK.cases {j:Nat}{w w':World}(h:RK f cb ks j w w'):Ext [cb] w w'\/RW f w w':=by
 unfold RK at h;split at h
 ·exact .inl h
 ·exact .inr h
theorem RK.rw {j:Nat}{w w':World}(h:RK f cb ks j w w')(hj:j≠ks):RW f w w':=by unfold RK at h;rw[ijn hj] at h;exact h
theorem Aq.staysK {i B:Nat}{xs:List Value}(hcb:cb<B)(hf:∀(b j:Nat) (u y:Value),B<=b->xs[j]? = some u->f ⟨b,j,none⟩ y->y=u):∀j,j≠i->∀y w w',RK f cb ks j w w'->(Aq B xs).V y w->(Aq B xs).V y w':=fun j _ b w w' h k=>by
 rcases h.cases with h|h
 ·exact⟨k.1,fun i u hu=>h.held (k.2 i u hu) fun hm=>by have h1:=jA.1 hm;have h2:B<=b:=k.1;simp only at h1;omega⟩
 ·exact Aq.stays hf b w w' h k
theorem Bo.staysK {i B:Nat}{t:TypeId}{s n:Nat}{xs:List Value}{L:Nat->Prop}(hL:¬L cb)(hf:∀(g i:Nat) (x y:Value),L g->xs[i]? = some x->f ⟨g,i,none⟩ y->y=x):∀j,j≠i->∀y w w',RK f cb ks j w w'->(Bo B t s n xs L).V y w->(Bo B t s n xs L).V y w':=fun j _ u w w' h k=>by
 rcases h.cases with h|h
 ·exact⟨Ah k.1 h fun q hq hm=>by have h1:=jA.1 hm;cases hq;exact hL (h1 ▸ k.2),k.2⟩
 ·exact Bo.stays hf u w w' h k
end
theorem Aik:∃i,prog.info? 124=some i/\i.zero=some (.slice none 0 0)/\i.size=1/\i.bytes=24:=info_parts (show((prog).info? 124).map (fun i=>(i.zero,i.size,i.bytes))=some (some (.slice none 0 0),1,24) by kernel_rfl)
end
section
structure CV where
 v:Value
 sv:Value
 av:Value
 L:List Nat
 AL:List Value
 gs:List Nat
structure Nh (n:Nat)(l:List St)(names:List ByteArray)(no cb B:Nat)(b0 b1 b2 sv av:Value)(L:List Nat)(AL:List Value)(xs:List Int)(gl X:List Nat)(x:CV)(w:World):Prop where
 cd:Ry w cb B b0 b1 b2 x.sv x.av x.L x.AL
 len:x.L.length=no+Ab l/\x.AL.length=no+Ab l
 sub:∀(i g:Nat),L[i]? = some g->x.L[i]? = some g
 suba:∀(i:Nat) (g:Value),AL[i]? = some g->x.AL[i]? = some g
 ts:∀y∈TS cb x.sv x.av,y∈TS cb sv av\/n<=y
 row:Ed w n 117 x.v (x.gs.map ptV)
 apart:∀b,x.v.ownBlock=some b->b∉TS cb x.sv x.av
 lenG:x.gs.length=l.length
 cst:∀(i g:Nat) (s:St),x.gs[i]? = some g->l[i]? = some s->CSt w w.heap.size (X ++ TS cb x.sv x.av) x.L x.AL names (xs ++ [(i:Int)]) gl (no+Ab (l.take i)) g s
section
variable {n:Nat} {l:List St} {names:List ByteArray} {no cb B:Nat} {b0 b1 b2 sv av:Value} {L:List Nat} {AL:List Value} {xs:List Int} {gl X:List Nat} {x:CV} {w w':World}
theorem Nh.of {e:Ending}(h:Afv l names no cb B b0 b1 b2 sv av L AL xs gl X w e w')(hn:n<=w.heap.size):∃x:CV,e=.returned x.v/\Nh n l names no cb B b0 b1 b2 sv av L AL xs gl X x w'/\Ext (TS cb sv av) w w':=by
 obtain⟨v,a1,a2,L',a6,gs,h1,h2,h3,h4,h5,h6,h7,h8,h9,a7,a8,aa⟩:=h;exact⟨⟨v,a1,a2,L',a6,gs⟩,h1,⟨h3,⟨h4,h5⟩,h6,h7,fun y hy=>(h8 y hy).imp id fun h=>nt hn h,Mr h9 hn,a7,a8,aa⟩,h2⟩
theorem Nh.keep (h:Nh n l names no cb B b0 b1 b2 sv av L AL xs gl X x w)(hE:Ext [] w w'):Nh n l names no cb B b0 b1 b2 sv av L AL xs gl X x w':=
 ⟨h.cd.keep hE (by simp),h.len,h.sub,h.suba,h.ts,Df h.row hE (by simp),h.apart,h.lenG,fun i g s hg hs=>(h.cst i g s hg hs).step hE (by simp) hE.size (fun y hy=>.inl hy) (fun i g h=>h) fun i g h=>h⟩
end
def Aas (n:Nat)(l:List St)(names:List ByteArray)(no cb B:Nat)(b0 b1 b2 sv av:Value)(L:List Nat)(AL:List Value)(xs:List Int)(gl X:List Nat):Ba:=
 ⟨CV,⟨undef,undef,undef,[],[],[]⟩,fun x=>x.v,fun x w=>Nh n l names no cb B b0 b1 b2 sv av L AL xs gl X x w⟩
theorem Ail {wq wm w20 w23:World}{cb B:Nat}{b0 b1 b2 sv av sv2 av2:Value}{T0:List Nat}{sb:Nat}{L2:List Nat}{AL2:List Value}{PA:Option Addr}{path:List Int}{names:List ByteArray}{gl:List Nat}{no no2 pb po:Nat}{h:SH}{bs:List St}{CA A:Option Addr}{cc cap pc:Nat}{vv:Value}{arr:Array Value}{x:CV}{S T':List Nat}
  (hR:Lw wq wm cb B b0 b1 b2 sv av T0 sb sv2 av2 L2 AL2 arr PA path)
  (hp:∀(j:Nat) (v:Value),(stH h bs.length)[j]? = some v->w23.cell? ⟨pb,po+j,none⟩=some v) (hp2:pb<w23.heap.size/\pb∉T')
  (hC2:h.k=2->Mz wm wm.heap.size (sb :: (T0 ++ TS cb sv2 av2)) CA 9 (lnL names) h.conds)
  (hV2:h.k=3->∃(vb:Nat) (LA:Option Addr) (lc:Nat),vv=ptV vb/\CEx wm wm.heap.size (sb :: (T0 ++ TS cb sv2 av2)) names vb h.val/\L2[no]? = some sb/\AL2[no]? = some (.slice LA gl.length lc)/\Mz wm wm.heap.size (sb :: (T0 ++ TS cb sv2 av2)) LA 1 ptC gl)
  (hcall:Nh wm.heap.size bs (Aw names h) no2 cb B b0 b1 b2 sv2 av2 L2 AL2 path (Co gl h sb) (sb :: T0) x w20)
  (hno:no2=no+if h.k=3 then 1 else 0) (h3:h.k=3->bs=[]) (hE20:Ext (TS cb sv2 av2) wm w20) (hE23:Ext S w20 w23) (hS:∀y∈S,y∈sb :: T0) (hT0:∀y∈sb :: T0,y<wm.heap.size)
  (hxv:x.v=.slice A bs.length cap) (hbl:bs.length<=1000000)
  (hB:Blk w23 sb 129 (Ck pb po names.length (if h.k=1 then(Ar h:Int) else 0) (.slice CA (if h.k=2 then h.conds.length else 0) cc) (.slice A bs.length cap) (if h.k=3 then(no:Int) else 0) (.slice PA path.length pc) (if h.k=3 then h.at_.base else 0) (if h.k=3 then Bq names h.at_.ts else Ip) vv no (no+Be (.mk h bs):Nat)))
  (hT':∀y∈T',y∈T0 ++ TS cb x.sv x.av\/w20.heap.size<=y) (hsb:sb∉T'):CSt w23 w23.heap.size T' x.L x.AL names path gl no sb (.mk h bs):=by
 have a1:∀y∈T',y∈sb :: (T0 ++ TS cb sv2 av2)\/wm.heap.size<=y:=fun y hy=>by
  rcases hT' y hy with h1|h1
  ·rcases jN.1 h1 with h1|h1
   ·exact .inl (jI _ (jN.2 (.inl h1)))
   ·exact(hcall.ts y h1).imp (fun h=>jI _ (jN.2 (.inr h))) id
  ·exact .inr (nt hE20.size h1)
 have hE:Ext (sb :: (T0 ++ TS cb sv2 av2)) wm w23:=(hE20.mono fun y hy=>.inl (jI _ (jN.2 (.inr hy)))).trans (hE23.mono fun y hy=>.inl (by
  rcases jE.1 (hS y hy) with h1|h1
  ·rw[h1];exact jO ..
  ·exact jI _ (jN.2 (.inl h1))))
 refine .mk names path gl no sb h bs pb po CA cc A cap x.gs PA pc vv hB ⟨hB.lt,hsb⟩ hp hp2 (fun h2=>(hC2 h2).step hE (fun y hy=>.inl hy) hE.size a1) (hR.pa.step hE (fun y hy=>.inl hy) hE.size a1) (fun hk3=>?_) ?_ hcall.lenG (fun i g' s' hg hs=>?_)
 ·obtain⟨vb,LA,lc,h1,h2,h4,h5,h6⟩:=hV2 hk3;exact⟨vb,LA,lc,h1,h2.step hE (fun y hy=>.inl hy) hE.size a1,hcall.sub _ _ h4,hcall.suba _ _ h5,h6.step hE (fun y hy=>.inl hy) hE.size a1⟩
 ·have a2:x.gs.length<=1000000:=by rw[hcall.lenG];exact hbl
  obtain⟨A1,c1,h1,h2,h4⟩:=Nq hcall.row a2;rw[hxv] at h1;injection h1 with e1 e2 e3;subst e1;refine⟨h2.ext hE23 fun y hy b o hA hyb=>?_,fun b o hA=>?_⟩
  ·have h5:=(Bt hcall.row (b:=b) (by rw[h4,hA];rfl)).1;have h6:=hT0 y (hS y hy);omega
  ·have h7:x.v.ownBlock=some b:=by rw[h4,hA];rfl
   have h5:=Bt hcall.row h7;refine⟨nl h5.2 hE23.size,fun hm=>?_⟩
   rcases hT' b hm with h6|h6
   ·rcases jN.1 h6 with h6|h6
    ·have:=hT0 b (jI _ h6);omega
    ·exact hcall.apart b h7 h6
   ·omega
 ·have a6:¬h.k=3:=fun hk=>by rw[h3 hk] at hs;simp at hs
  have h1:=hcall.cst i g' s' hg hs;rw[hno,ijn a6,Nat.add_zero] at h1;refine h1.step hE23 (fun y hy=>.inl (jN.2 (.inl (hS y hy)))) hE23.size (fun y hy=>?_) (fun i g h=>h) fun i g h=>h
  rcases hT' y hy with h2|h2
  ·left
   rcases jN.1 h2 with h2|h2
   ·exact jN.2 (.inl (jI _ h2))
   ·exact jN.2 (.inr h2)
  ·exact .inr h2
theorem Af0 {nb:Nat}{names:List ByteArray}{h:SH}{bs:List St}(hF:Fd nb names (.mk h bs))(h8:names.length<=8):(∀s∈bs,Fd nb (Aw names h) s)/\(Aw names h).length<=8/\(h.k=3->bs=[]):=by
 cases hF with
 | loop _ _ _ h1 h2 h3 h4 h5 h6 h7 h8' h9=>
  have e:Aw names h=names ++ [h.var]:=ijp h1;rw[e];exact⟨h9,by simp;omega,fun h=>by omega⟩
 | when _ _ _ h1 h2 h3 h4 h5=>
  have e:Aw names h=names:=ijn (by omega);rw[e];exact⟨h5,h8,fun h=>by omega⟩
 | store _ _ h1=>
  exact⟨fun s hs=>by simp at hs,by
                     have e:Aw names h=names:=ijn (by omega);rw[e];exact h8,fun _=>rfl⟩
theorem Af1 {l:List St}{j:Nat}{s:St}(h:l[j]? = some s):Hm s<=Bk l:=by
 have h1:=Ia h;have h2:=Ll (l.take (j+1)) (l.drop (j+1));rw[List.take_append_drop] at h2;omega
theorem Fp.on {ops:Array Oper}{i:Nat}{r:Nat->Bool}(h:Fp ops i r)(j k:Nat)(hj:(ops[j]?.map fun oj=>oj.after.any fun e=>Region.binds .any e&&e.on==k)=some true)(hk:r k=true):r j=true:=by
 cases ho:ops[j]? with
 | none=>rw[ho] at hj;cases hj
 | some oj=>
  rw[ho] at hj;simp only[Option.map_some,Option.some.injEq] at hj;obtain⟨e,he,hb⟩:=Array.any_eq_true'.1 hj;simp only[Bool.and_eq_true,beq_iff_eq] at hb;cases hr:r j with
  | true=>rfl
  | false=>
   have:=h.shut j oj ho hr e he hb.1;rw[hb.2,hk] at this;cases this
end
end Go.Proofs.YtfppibmloloakaaGreatDoor
