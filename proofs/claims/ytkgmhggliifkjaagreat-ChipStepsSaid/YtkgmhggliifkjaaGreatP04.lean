import Derived.Test.YtkgmhggliifkjaaGreatP03
import Derived.WalkSmall
import Derived.Deep.OwnRows
import Derived.Laws.OwnMore
namespace Go.Proofs.YtkgmhggliifkjaaGreat
open Go.RowKit Go.Proofs.Tryz
set_option linter.all false
set_option maxHeartbeats 8000000
set_option maxRecDepth 100000
section
def RdC (w:World)(A:Option Addr)(xs:List Ins):Prop:=
 xs=[]\/∃b o,A=some ⟨b,o,none⟩/\∀k x,xs[k]? = some x->∀j v,x.cells[j]? = some v->w.cell? ⟨b,o+k*9+j,none⟩=some v
theorem RdC.ext {S:List Nat}{w w':World}{A:Option Addr}{xs:List Ins}(h:RdC w A xs)(hE:Ext S w w')(hS:∀a,A=some a->a.block∉S):RdC w' A xs:=by
 rcases h with h|⟨b,o,rfl,h⟩
 ·exact .inl h
 ·exact .inr ⟨b,o,rfl,fun k x hx j v hv=>hE.held (h k x hx j v hv) (show b∉S from hS ⟨b,o,none⟩ rfl)⟩
theorem RdC.at {w:World}{A:Option Addr}{xs:List Ins}(h:RdC w A xs){k:Nat}{x:Ins}(hx:xs[k]? = some x) :
  ∃b o,A=some ⟨b,o,none⟩/\b<w.heap.size/\∀j v,x.cells[j]? = some v->w.cell? ⟨b,o+k*9+j,none⟩=some v:=by
 rcases h with h|⟨b,o,rfl,h⟩
 ·simp[h] at hx
 ·exact⟨b,o,rfl,World.block_lt_of_cell? w ⟨b,_,none⟩ (h k x hx 0 _ rfl),h k x hx⟩
def Du (st:List Int)(x:Ins):List Int:=if x.op=3 then min (st.headD 0*x.m) 40000001 :: st else if x.op=4 then st.tail else st
def Gu (xs:List Ins)(k:Nat):List Int:=(xs.take k).foldl Du [1]
theorem Acf {xs:List Ins}{k:Nat}{x:Ins}(hx:xs[k]? = some x):Gu xs (k+1)=Du (Gu xs k) x:=by
 unfold Gu;rw[List.take_add_one,hx,List.foldl_append];rfl
def Ep (xs:List Ins):Prop:=∀x∈xs,x.op=3->0<=x.m/\x.m<=1000000
theorem Us {st:List Int}{x:Ins}(h:∀t∈st,0<=t/\t<=40000001)(hx:x.op=3->0<=x.m/\x.m<=1000000):∀t∈Du st x,0<=t/\t<=40000001:=by
 unfold Du;split
 ·rename_i h3
  intro t ht;rcases List.mem_cons.1 ht with rfl|ht
  ·have h0:0<=st.headD 0:=by
    cases st with
    | nil=>simp
    | cons a st=>exact(h a (by simp)).1
   have:=Int.mul_nonneg h0 (hx h3).1;omega
  ·exact h t ht
 ·split
  ·exact fun t ht=>h t (List.mem_of_mem_tail ht)
  ·exact h
theorem Qs {xs:List Ins}(h:Ep xs)(k:Nat):∀t∈Gu xs k,0<=t/\t<=40000001:=by
 unfold Gu;have h0:∀x∈xs.take k,x.op=3->0<=x.m/\x.m<=1000000:=fun x hx=>h x (List.mem_of_mem_take hx)
 have h1:∀t∈([1]:List Int),0<=t/\t<=40000001:=by simp
 generalize ([1]:List Int)=st at h1;revert h1 st
 clear h;generalize xs.take k=ys at h0
 induction ys with
 | nil=>intro st h1;exact h1
 | cons x l ih=>intro st h1;exact ih (fun y hy=>h0 y (by simp[hy])) _ (Us h1 (h0 x (by simp)))
theorem Wk (xs:List Ins)(k:Nat):(Gu xs k).length<=k+1:=by
 unfold Gu
 have h:∀(l:List Ins) (st:List Int),(l.foldl Du st).length<=l.length+st.length:=by
  intro l
  induction l with
  | nil=>intro st;simp
  | cons x l ih=>
   intro st
   have h2:(Du st x).length<=st.length+1:=by
    unfold Du;split
    ·simp
    ·split<;>simp<;>omega
   have:=ih (Du st x);simp only[List.foldl_cons,List.length_cons];omega
 have:=h (xs.take k) [1];simp only[List.length_take,List.length_singleton] at this;omega
def Fp (xs:List Ins):List Int:=(List.range xs.length).map fun j=>(Gu xs j).headD 0
def Fz (xs:List Ins)(k:Nat):List Int:=(List.range xs.length).map fun j=>if j<k then(Gu xs j).headD 0 else 0
theorem Yz (xs:List Ins):Fz xs xs.length=Fp xs:=by
 unfold Fz Fp;apply List.map_congr_left
 intro j hj;simp at hj;simp[hj]
theorem Lq (xs:List Ins):Fz xs 0=List.replicate xs.length 0:=by
 unfold Fz;apply List.ext_getElem
 ·simp
 ·simp
theorem Wl (xs:List Ins)(k:Nat):(Db (Fz xs k)).setIfInBounds k (.int .i64 ((Gu xs k).headD 0))=Db (Fz xs (k+1)):=by
 unfold Fz Db;apply Array.ext
 ·simp
 ·intro i h1 h2;by_cases hk:k=i
  ·subst hk;simp
  ·have h3:(i<k+1)=(i<k):=by apply propext;omega
   simp[hk,h3]
structure Ky (w:World)(B:Nat)(xs:List Ins)(k:Nat)(v:Value)(wr:World):Prop where
 up:Ext [] w wr
 o:Blk wr B 3 (Db (Fz xs k))
 own:wr.ownsRow (B+1) 3 1 v (Gu xs k).length (((Gu xs k).reverse).map (Value.int .i64))
theorem Ky.start (w:World)(xs:List Ins):Ky w w.heap.size xs 0 (.slice (some ⟨w.heap.size+1,0,none⟩) 1 1) ((w.alloc (.cells (Db (Fz xs 0)) 3)).alloc (.cells #[(1:Int)] 3)) where
 up:=(er.alloc _).alloc _
 o:=(Blk.new _ _ _).alloc _
 own:=⟨by simp[Gu],.inr ⟨_,1,#[(1:Int)],rfl,Nat.le_refl _,by have:=Blk.new' (w.alloc (.cells (Db (Fz xs 0)) 3)) 3 #[(1:Int)] (w.heap.size+1) (by simp);exact this,by simp[Gu],by decide,by simp,by simp[Gu]⟩⟩
section
variable {w:World} {xs:List Ins} {k:Nat} {t:Int} {st:List Int} {x:Ins} {g cap:Nat} {wr:World} {o:Obj}
theorem Ky.stored (h:Ky w w.heap.size xs k (.slice (some g) (st.length+1) cap) wr)(hst:Gu xs k=t :: st)(o:Obj) :
  Ext [] w ((wr.setCell ⟨w.heap.size,k,none⟩ t).alloc o)/\Blk ((wr.setCell ⟨w.heap.size,k,none⟩ t).alloc o) w.heap.size 3 (Db (Fz xs (k+1)))/\
   ((wr.setCell ⟨w.heap.size,k,none⟩ t).alloc o).ownsRow (w.heap.size+1) 3 1 (.slice (some g) (st.length+1) cap) (st.length+1) (((t :: st).reverse).map (Value.int .i64)):=by
 have ho:=h.own;rw[hst] at ho;refine⟨(h.up.setCell (.inr (Nat.le_refl _)) _).alloc _,(h.o.set_' k _ _ ?_).alloc _,(ownsRow_setCell_below ho (by simp) _).alloc _⟩
 rw[<-Wl,hst];rfl
theorem Ky.same (h:Ky w w.heap.size xs k (.slice (some g) (st.length+1) cap) wr)(hst:Gu xs k=t :: st)(hx:Gu xs (k+1)=Du (Gu xs k) x)(h3:x.op≠3)(h4:x.op≠4) :
  Ky w w.heap.size xs (k+1) (.slice (some g) (st.length+1) cap) ((wr.setCell ⟨w.heap.size,k,none⟩ t).alloc o):=by
 obtain⟨h1,h2,h5⟩:=h.stored hst o;have hs:Gu xs (k+1)=t :: st:=by rw[hx,hst];simp[Du,h3,h4]
 exact⟨h1,h2,by rw[hs];exact h5⟩
theorem Ky.pop (h:Ky w w.heap.size xs k (.slice (some g) (st.length+1) cap) wr)(hst:Gu xs k=t :: st)(hx:Gu xs (k+1)=Du (Gu xs k) x)(h4:x.op=4) :
  Ky w w.heap.size xs (k+1) (.slice (some g) st.length cap) ((wr.setCell ⟨w.heap.size,k,none⟩ t).alloc o):=by
 obtain⟨h1,h2,h5⟩:=h.stored hst o;have hs:Gu xs (k+1)=st:=by rw[hx,hst];simp[Du,h4]
 refine⟨h1,h2,?_⟩
 rw[hs];refine ownsRow_pop (last:=[.int .i64 t]) (by simp) ?_
 simpa using h5
theorem Ky.push {w2:World}{o2:Obj}{g2 cap2:Nat}{q:Int}(h:Ky w w.heap.size xs k (.slice (some g) (st.length+1) cap) wr)(hst:Gu xs k=t :: st)(hx:Gu xs (k+1)=Du (Gu xs k) x)(h3:x.op=3)
  (hq:q=min (t*x.m) 40000001) (hgb:w.heap.size+1<=g)
  (ho:w2.ownsRow (w.heap.size+1) 3 1 (.slice (some g2) (st.length+1+1) cap2) (st.length+1+1) (((t :: st).reverse).map (Value.int .i64) ++ [.int .i64 q]))
  (hg:(((wr.setCell ⟨w.heap.size,k,none⟩ t).alloc o).alloc o2).grownBy w2 (some g)) :
  Ky w w.heap.size xs (k+1) (.slice (some g2) (st.length+1+1) cap2) w2:=by
 obtain⟨h1,h2,h5⟩:=h.stored hst o;have hs:Gu xs (k+1)=q :: t :: st:=by rw[hx,hst];simp[Du,h3,hq]
 refine⟨(h1.alloc o2).grown hg (fun j hj=>.inr (by cases hj;omega)),(h2.alloc o2).grown hg (by simp;omega),?_⟩
 rw[hs];simpa using ho
end
theorem Acg (A:Option Addr)(cap:Nat)(xs:List Ins)(w:World)(h:RdC w A xs)(hl:xs.length<=100000)(hm:Ep xs)(hs:∀k,k<=xs.length->Gu xs k≠[]) :
  Calls prog 70 #[.slice A xs.length cap] w fun e w'=>∃b:Nat,e=.returned (.slice (some b) xs.length xs.length)/\Ext [] w w'/\Blk w' b 3 (Db (Fp xs)):=by
 have HH:=hd h;have HS:=hd hs;have HB:=hd (Qs hm);have HM:=hd hm;clear h hs hm
 have hmk:∀W:World,(Instr.makeSlice 22 (.int .i64 xs.length) (.int .i64 xs.length)).run prog W=.ok (.slice (some W.heap.size) xs.length xs.length) (W.alloc (.cells (Db (Fz xs 0)) 3)):=fun W=>by
  rw[run_make_row' 22 3 (.int .i64 0) 8 underlying22 (by kernel_rfl) rfl .i64 .i64 xs.length (by omega) (by omega) W,Lq];congr 3
  apply Array.ext
  ·simp[Db,madeCells]
  ·intro i h1 h2;simp[Db,madeCells,Nat.mod_one]
 go_enter func70,ntmps70
 go_wp2_with fail
 go_loopw [4,14] (fun v i wr=>∃k:Nat,i=.int .i64 k/\k<=xs.length/\Ky w w.heap.size xs k v wr) (fun _ i _=>(xs.length-intOf i).toNat)
 case atStart=>exact⟨0,rfl,by omega,Ky.start w xs⟩
 case round=>
  obtain⟨k,rfl,hk,hT⟩:=hrel;by_cases hlt:k<xs.length
  ·obtain⟨x,hx⟩:∃x,xs[k]? = some x:=⟨_,List.getElem?_eq_getElem hlt⟩;obtain⟨b,o,rfl,hb,hcx⟩:=((HH.o.ext hT.up (by simp))).at hx;have hbn:=HS.o k hk
   obtain⟨t,st,hst⟩:∃t st,Gu xs k=t :: st:=by
    cases h:Gu xs k with
    | nil=>exact absurd h hbn
    | cons t st=>exact⟨t,st,rfl⟩
   have hown:=hT.own;rw[hst] at hown;obtain⟨g,cap',rfl,hg1,hg2⟩:=hown.form (by simp)
   have hcap:st.length+1<=cap':=by
    rcases hown.2 with⟨h0,_⟩|⟨g',c',cur,h0,_,_,h2,_⟩
    ·cases h0
    ·cases h0;simpa using h2
   have hct:wr.cell? ⟨g,st.length,none⟩=some (.int .i64 t):=by
    rw[hown.cellAt st.length (by simp)];simp
   obtain⟨hco0,hfo⟩:=hT.o.both
   have hco:wr.cell? ⟨w.heap.size,k,none⟩=some (.int .i64 0):=by
    rw[hco0];simp[Db,Fz,hlt]
   clear hco0;have hlo:=hT.o.lt;obtain⟨xo,xk,xd,xa,xb,xc,xp,xn,xm⟩:=x;have HX:=hd hx;have HT:=hd hT;have HO:=hd hown;have HST:=hd hst;have HSS:=hd (Acf hx);have h0:=hcx 0 _ rfl;have h1:=hcx 1 _ rfl;have h2:=hcx 2 _ rfl;have h3:=hcx 3 _ rfl;have h4:=hcx 4 _ rfl;have h5:=hcx 5 _ rfl;have h6:=hcx 6 _ rfl;have h7:=hcx 7 _ rfl;have h8:=hcx 8 _ rfl;simp only[Nat.add_zero] at h0;have hbt:=HB.o k t (by rw[hst];simp);obtain⟨ht0,ht1⟩:=hbt;have hml:xo=3->0<=xm/\xm<=1000000:=HM.o _ (ilm hx)
   have hstl:st.length<=100000:=by
    have:=Wk xs k;rw[hst] at this;simp at this;omega
   clear hcx hx hT hown hst hbn;have hop:xo=3\/xo=4\/((xo==3)=false/\(xo==4)=false):=by simp;omega
   rcases hop with rfl|rfl|⟨hn3,hn4⟩
   ·have hmm:=hml rfl;obtain⟨hm0,hm1⟩:=hmm;clear hml;have hmn:0<=t*xm:=Int.mul_nonneg ht0 hm0;have hmx:t*xm<=40000001*1000000:=Int.mul_le_mul ht1 hm1 hm0 (by omega);have hww:wrap64 (t*xm)=t*xm:=by clear hmk h0 h1 h2 h3 h4 h5 h6 h7 h8 hfo hco hct;generalize t*xm=q at *;unfold wrap64;omega
    have HQ:Hd (min (t*xm) 40000001=min (t*xm) 40000001):=hd rfl;obtain⟨i0,hi0,hz0,hz1,hz2⟩:=info_parts (show((prog).info? 3).map (fun i=>(i.zero,i.size,i.bytes))=some (some (.int .i64 0),1,8) by kernel_rfl);by_cases hle:40000001<t*xm
    ·go_wp2_with (
      refine wpList_append_lies _ rfl _ _ 22 rfl (w.heap.size+1) 3 i0 (.int .i64 0) 1 8 underlying22 hi0 hz0 hz1 hz2 rfl (by decide) _ _ _ rfl ((HT.o.stored HST.o _).2.2.alloc _) ⟨wr.heap.size+1,0,none⟩ 1 1 [.int .i64 40000001] rfl rfl ?c1 ?c2 (by decide) ?c3 ?c4 ?c5 _ rfl ?_
      case c1=>exact World.news_of_block (Blk.new' _ _ #[(40000001:Int)] _ (by simp))
      case c2=>intro u hu;simp at hu;subst hu;rfl
      case c3=>unfold maxLen;omega
      case c4=>omega
      case c5=>simp;omega
      intro g2 cap2 w2 ho2 hg2 ha2 hlt2;have HT2:=hd (Ky.push (q:=40000001) HT.o HST.o HSS.o rfl (by first|rfl|(show _=min (t*xm) _;omega)) hg1 ho2 hg2);clear ho2 hg2 ha2)
     go_round
     case rel=>exact⟨k+1,by go_num,by omega,HT2.o⟩
     case measure=>simp[intOf];omega
    ·go_wp2_with (
      refine wpList_append_lies _ rfl _ _ 22 rfl (w.heap.size+1) 3 i0 (.int .i64 0) 1 8 underlying22 hi0 hz0 hz1 hz2 rfl (by decide) _ _ _ rfl ((HT.o.stored HST.o _).2.2.alloc _) ⟨wr.heap.size+1,0,none⟩ 1 1 [.int .i64 (t*xm)] rfl rfl ?c1 ?c2 (by decide) ?c3 ?c4 ?c5 _ rfl ?_
      case c1=>exact World.news_of_block (Blk.new' _ _ #[(t*xm)] _ (by simp))
      case c2=>intro u hu;simp at hu;subst hu;rfl
      case c3=>unfold maxLen;omega
      case c4=>omega
      case c5=>simp;omega
      intro g2 cap2 w2 ho2 hg2 ha2 hlt2;have HT2:=hd (Ky.push (q:=(t*xm)) HT.o HST.o HSS.o rfl (by first|rfl|(show _=min (t*xm) _;omega)) hg1 ho2 hg2);clear ho2 hg2 ha2)
     go_round
     case rel=>exact⟨k+1,by go_num,by omega,HT2.o⟩
     case measure=>simp[intOf];omega
   ·go_wp2_with fail
    go_round
    case rel=>exact⟨k+1,by go_num,by omega,Ky.pop HT.o HST.o HSS.o rfl⟩
    case measure=>simp[intOf];omega
   ·go_wp2_with fail
    go_round
    case rel=>exact⟨k+1,by go_num,by omega,Ky.same HT.o HST.o HSS.o (by simpa using hn3) (by simpa using hn4)⟩
    case measure=>simp[intOf];omega
  ·have hk2:k=xs.length:=by omega
   subst hk2;have HE:=hd hT.up;have HO:=hd hT.o;clear hT hk hlt;go_wp2_with fail
   go_ret
   exact⟨_,rfl,HE.o,by rw[<-Yz];exact HO.o⟩
end
def Dn (m:Mc)(D:Nat)(x:Ins):Int:=
 match Dl x with
 | none=>4
 | some f=>if Dy f x then 3 else if Dd m f x=false then 9 else if x.op=4/\D=0 then 7 else if x.op=3/\16<=D then 2 else 0
def Dk (D:Nat)(x:Ins):Nat:=if x.op=3 then D+1 else if x.op=4 then D-1 else D
def Bh (m:Mc):Nat->List Ins->Int
 | D,[]=>if 0<D then 7 else 0
 | D,x :: xs=>if Dn m D x=0 then Bh m (Dk D x) xs else Dn m D x
def Cv (m:Mc)(xs:List Ins):Int:=
 if m.okB=false then 9 else if 400000<xs.length then 2 else if Bh m 0 xs=0 then(if 40000000<(Fp xs).sum then 2 else 0) else Bh m 0 xs
theorem Aeq (x:Ins)(f:Frm)(h:Dl x=some f):f.wf:=by
 have hn:∀b:Bool,∀v:Int,0<=v->v<=5->0<=nz b v/\nz b v<=5:=fun b v h0 h1=>by cases b<;>simp[nz]<;>omega
 have hw:∀g:Frm,(0<=g.d/\g.d<=5)->(0<=g.a/\g.a<=5)->(0<=g.b/\g.b<=5)->(0<=g.c/\g.c<=5)->(0<=g.n/\g.n<=5)->(0<=g.m/\g.m<=5)->g.wf:=by
  intro g h1 h2 h3 h4 h5 h6 k hk
  match k,hk with
  | 0,_=>exact h1
  | 1,_=>exact h2
  | 2,_=>exact h3
  | 3,_=>exact h4
  | 4,_=>exact h5
  | 5,_=>exact h6
 have hop:∀k p,(Cl k 1 p).wf:=fun k p=>hw _ (by simp[Cl]) (by simp[Cl]) (hn _ 1 (by decide) (by decide)) (hn _ 1 (by decide) (by decide)) (hn _ 5 (by decide) (by decide)) (hn _ 5 (by decide) (by decide))
 have hop2:∀k p,(Cl k 2 p).wf:=fun k p=>hw _ (by simp[Cl]) (by simp[Cl]) (hn _ 2 (by decide) (by decide)) (hn _ 2 (by decide) (by decide)) (hn _ 5 (by decide) (by decide)) (hn _ 5 (by decide) (by decide))
 unfold Dl at h;by_cases h1:x.op=1
 ·rw[ijp h1] at h;cases h;exact hw _ (by decide) (by decide) (by decide) (by decide) (by decide) (by decide)
 rw[ijn h1] at h;by_cases h2:x.op=2
 ·rw[ijp h2] at h;cases h;exact hop _ _
 rw[ijn h2] at h;by_cases h3:x.op=3
 ·rw[ijp h3] at h;cases h;exact hw _ (by decide) (by decide) (by decide) (by decide) (by decide) (by decide)
 rw[ijn h3] at h;by_cases h4:x.op=4
 ·rw[ijp h4] at h;cases h;exact hw _ (by decide) (by decide) (by decide) (by decide) (by decide) (by decide)
 rw[ijn h4] at h;by_cases h5:x.op=5
 ·rw[ijp h5] at h;cases h;exact hw _ (by decide) (by decide) (by decide) (by decide) (by decide) (by decide)
 rw[ijn h5] at h;by_cases h6:x.op=6
 ·rw[ijp h6] at h;cases h;exact hw _ (by decide) (by decide) (by decide) (by decide) (by decide) (by decide)
 rw[ijn h6] at h;by_cases h7:x.op=7
 ·rw[ijp h7] at h;cases h;exact hw _ (by decide) (by decide) (by decide) (by decide) (by decide) (by decide)
 rw[ijn h7] at h;by_cases h8:x.op=8
 ·rw[ijp h8] at h;cases h;exact hw _ (by decide) (by decide) (by decide) (by decide) (by decide) (by decide)
 rw[ijn h8] at h;by_cases h9:x.op=9
 ·rw[ijp h9] at h;cases h;exact hw _ (by decide) (by decide) (by decide) (by decide) (by decide) (by decide)
 rw[ijn h9] at h;by_cases h10:x.op=10
 ·rw[ijp h10] at h;cases h;exact hw _ (by decide) (by decide) (by decide) (by decide) (by decide) (by decide)
 rw[ijn h10] at h;by_cases h11:x.op=11
 ·rw[ijp h11] at h;cases h;exact hop2 _ _
 rw[ijn h11] at h;by_cases h12:x.op=12
 ·rw[ijp h12] at h;cases h;exact hw _ (by decide) (by decide) (by decide) (by decide) (by decide) (by decide)
 rw[ijn h12] at h;by_cases h13:x.op=13
 ·rw[ijp h13] at h;cases h;exact hw _ (by decide) (by decide) (by decide) (by decide) (by decide) (by decide)
 rw[ijn h13] at h;by_cases h14:x.op=14
 ·rw[ijp h14] at h;cases h;exact hw _ (by decide) (by decide) (by decide) (by decide) (by decide) (by decide)
 rw[ijn h14] at h;by_cases h15:x.op=15
 ·rw[ijp h15] at h;cases h;exact hw _ (by decide) (by decide) (by decide) (by decide) (by decide) (by decide)
 rw[ijn h15] at h;by_cases h16:x.op=16
 ·rw[ijp h16] at h;cases h;exact hw _ (by decide) (by decide) (by decide) (by decide) (by decide) (by decide)
 rw[ijn h16] at h;by_cases h17:x.op=17
 ·rw[ijp h17] at h;cases h;exact hw _ (by decide) (by decide) (by decide) (by decide) (by decide) (by decide)
 rw[ijn h17] at h;by_cases h18:x.op=18
 ·rw[ijp h18] at h;cases h;exact hw _ (by decide) (by decide) (by decide) (by decide) (by decide) (by decide)
 rw[ijn h18] at h;by_cases h19:x.op=19
 ·rw[ijp h19] at h;cases h;exact hw _ (by decide) (by decide) (by decide) (by decide) (by decide) (by decide)
 rw[ijn h19] at h;cases h
theorem Aer {m:Mc}{D:Nat}{x:Ins}(h:Dn m D x=0)(h3:x.op=3):0<=x.m/\x.m<=1000000:=by
 unfold Dn at h;split at h
 ·omega
 ·rename_i f hf
  split at h
  ·omega
  ·split at h
   ·omega
   ·rename_i hr
    simp only[Bool.not_eq_false] at hr;unfold Dd Ej at hr;simp only[h3,Bool.and_eq_true] at hr;have:=hr.2;simp at this;exact Bi.1 this.2
theorem Nv {m:Mc}{D:Nat}{x:Ins}(h:Dn m D x=0)(h4:x.op=4):0<D:=by
 unfold Dn at h;split at h
 ·omega
 ·split at h
  ·omega
  ·split at h
   ·omega
   ·split at h
    ·omega
    ·rename_i h5
     simp only[h4,true_and] at h5;omega
theorem Hc {m:Mc}{xs:List Ins}:∀{D:Nat},Bh m D xs=0->Ep xs:=by
 induction xs with
 | nil=>intro D _ x hx;simp at hx
 | cons x xs ih=>
  intro D h;simp only[Bh] at h;split at h
  ·rename_i h0
   intro y hy h3;rcases List.mem_cons.1 hy with rfl|hy
   ·exact Aer h0 h3
   ·exact ih h y hy h3
  ·omega
theorem Wm {m:Mc}{xs:List Ins}:∀{D:Nat} (st:List Int),Bh m D xs=0->D<st.length->∀k,k<=xs.length->(xs.take k).foldl Du st≠[]:=by
 induction xs with
 | nil=>intro D st _ hst k _;simp;intro h;simp[h] at hst
 | cons x xs ih=>
  intro D st h hst k hk;cases k with
  | zero=>simp;intro h;simp[h] at hst
  | succ k=>
   simp only[Bh] at h;split at h
   ·rename_i h0
    simp only[List.take_succ_cons,List.foldl_cons];refine ih _ h ?_ k (by simpa using hk)
    unfold Dk Du;split
    ·simpa using hst
    ·split
     ·rename_i h4
      have:=Nv h0 h4;simp;omega
     ·exact hst
   ·omega
theorem Ut {xs:List Ins}(h:Ep xs):∀t∈Fp xs,0<=t/\t<=40000001:=by
 intro t ht;obtain⟨j,_,rfl⟩:=List.mem_map.1 ht;cases hs:Gu xs j with
 | nil=>simp
 | cons a st=>exact Qs h j a (by rw[hs];simp)
theorem Se (xs:List Ins):(Fp xs).length=xs.length:=by simp[Fp]
theorem Qt {l:List Int}(h:∀t∈l,0<=t):0<=l.sum:=by
 induction l with
 | nil=>simp
 | cons a l ih=>
  have:=h a (by simp);have:=ih fun t ht=>h t (List.mem_cons_of_mem _ ht)
  simp;omega
theorem Wn {l:List Int}(h:∀t∈l,0<=t)(k:Nat):(l.take k).sum<=l.sum:=by
 have h1:(l.take k).sum+(l.drop k).sum=l.sum:=by rw[<-List.sum_append,List.take_append_drop]
 have h2:0<=(l.drop k).sum:=Qt fun t ht=>h t (List.mem_of_mem_drop ht)
 omega
theorem Sf {l:List Int}{k:Nat}{t:Int}(h:l[k]? = some t):(l.take (k+1)).sum=(l.take k).sum+t:=by
 rw[List.take_add_one,h,List.sum_append];simp
def Lr (m:Mc)(xs:List Ins)(D:Nat)(k:Nat):Prop:=Bh m 0 xs=Bh m D (xs.drop k)/\D<=k
theorem Lr.next {m:Mc}{xs:List Ins}{D k:Nat}{x:Ins}(h:Lr m xs D k)(hx:xs[k]? = some x)(h0:Dn m D x=0):Lr m xs (Dk D x) (k+1):=by
 obtain⟨hk,e⟩:=ils hx;refine⟨?_,by have:=h.2;unfold Dk;split<;>(try split)<;>omega⟩
 rw[h.1,List.drop_eq_getElem_cons hk,e];simp only[Bh,h0,if_pos]
theorem Lr.stop {m:Mc}{xs:List Ins}{D k:Nat}{x:Ins}(h:Lr m xs D k)(hx:xs[k]? = some x)(h0:Dn m D x≠0):Bh m 0 xs=Dn m D x:=by
 obtain⟨hk,e⟩:=ils hx;rw[h.1,List.drop_eq_getElem_cons hk,e];simp only[Bh,ijn h0]
theorem Lr.end {m:Mc}{xs:List Ins}{D k:Nat}(h:Lr m xs D k)(hk:xs.length<=k):Bh m 0 xs=if 0<D then 7 else 0:=by
 rw[h.1,List.drop_eq_nil_of_le hk];rfl
theorem Tt (m:Mc)(A:Option Addr)(cap:Nat)(xs:List Ins)(w:World)(h:RdC w A xs)(hl:xs.length<=100000) :
  Calls prog 34 #[.agg m.cells.toArray,.slice A xs.length cap] w fun e w'=>e=.returned (.int .i64 (Cv m xs))/\Ext [] w w':=by
 have HH:=hd h;have HS:Hd (Cv m xs=if m.okB=false then 9 else if 400000<xs.length then 2 else if Bh m 0 xs=0 then(if 40000000<(Fp xs).sum then 2 else 0) else Bh m 0 xs):=hd rfl;have HC:Hd (Lr m xs 0 0):=hd ⟨by simp,by omega⟩;have HO:Hd (m.okB=(inR m.main 1 524288&&inR m.banks 2 8&&inR m.bank 256 4096&&inR m.lanes 2 8&&inR m.queues 1 4)):=hd rfl;clear h;have hmc:m.cells=[.int .i64 m.main,.int .i64 m.banks,.int .i64 m.bank,.int .i64 m.lanes,.int .i64 m.queues]:=rfl;rw[hmc];generalize Cv m xs=r at *;go_enter func34,ntmps34
 go_wp2_with fail
 refine(Ow m _).mono ?_
 rintro e w1 ⟨rfl,hE1⟩;have hB1:=(Blk.new w 27 m.cells.toArray).ext hE1 (by simp);have hf1:=hB1.cell;have hl1:=hB1.lt;have HE1:=hd (((Ext.refl [] w).alloc _).trans hE1);rw[hmc] at hf1;clear hE1 hB1;cases hok:m.okB
 ·simp only[okE];go_wp2_with fail
  go_ret
  exact⟨Ai (by rw[HS.o,ijp hok]),HE1.o⟩
 ·simp only[okE]
  have hbn:(0<=m.banks/\m.banks<=1000)/\(0<=m.queues/\m.queues<=1000)/\(0<=m.lanes/\m.lanes<=1000):=by
   have h0:=HO.o;rw[hok] at h0;have h1:=h0.symm;simp only[Bool.and_eq_true,Bi] at h1;omega
  have HBN:=hd hbn;have HS2:Hd (r=if Bh m 0 xs=0 then(if 40000000<(Fp xs).sum then 2 else 0) else Bh m 0 xs):=hd (by rw[HS.o,ijn (by simp[hok]),ijn (by omega)]);clear hbn HO hok HS;go_wp2_with fail
  have hB2:=Blk.new w1 114 m.cells.toArray;rw[hmc] at hB2;have HB2:=hd hB2;clear hB2 hf1;go_loopw [7,27] (fun d i wr=>∃k D:Nat,i=.int .i64 k/\d=.int .i64 D/\k<=xs.length/\Hd (Lr m xs D k)/\Ext [] (w1.alloc (.cells #[.int .i64 m.main,.int .i64 m.banks,.int .i64 m.bank,.int .i64 m.lanes,.int .i64 m.queues] 114)) wr) (fun _ i _=>(xs.length-intOf i).toNat)
  case atStart=>exact⟨0,0,rfl,rfl,by omega,HC,er⟩
  case round=>
   obtain⟨k,D,rfl,rfl,hk,hK,hE⟩:=hrel;by_cases hlt:k<xs.length
   ·obtain⟨x,hx⟩:∃x,xs[k]? = some x:=⟨_,List.getElem?_eq_getElem hlt⟩;have HX:=hd hx;obtain⟨b,o,rfl,hb,hcx⟩:=(HH.o.ext (HE1.o.trans ((er.alloc _).trans hE)) (by simp)).at hx;have hxc:x.cells=[.int .i64 x.op,.int .i64 x.k,.int .i64 x.d,.int .i64 x.a,.int .i64 x.b,.int .i64 x.c,.int .i64 x.p,.int .i64 x.n,.int .i64 x.m]:=rfl;have h0:=hcx 0 _ rfl;have h1:=hcx 1 _ rfl;have h2:=hcx 2 _ rfl;have h3:=hcx 3 _ rfl;have h4:=hcx 4 _ rfl;have h5:=hcx 5 _ rfl;have h6:=hcx 6 _ rfl;have h7:=hcx 7 _ rfl;have h8:=hcx 8 _ rfl;simp only[Nat.add_zero] at h0;clear hcx hx;have HE:=hd hE;clear hE;go_wp2_with fail
    refine(Yw x _).mono ?_
    rintro e W1 ⟨⟨s,rfl⟩,hW1⟩;have HB3:=hd ((Blk.new wr 76 x.cells.toArray).ext hW1 (by simp));have HE2:=hd (HE.o.trans ((er.alloc _).trans hW1));have hf3:=HB3.o.cell;have hl3:=HB3.o.lt;rw[hxc] at hf3;have HI:Hd (Dn m D x=_):=hd (by unfold Dn;rfl);clear h0 h1 h2 h3 h4 h5 h6 h7 h8 hW1 hb;cases hfo:Dl x with
    | none=>
     have HI2:Hd (Dn m D x=4):=hd (by unfold Dn;rw[hfo]);simp only[hfo,Option.getD,Option.isSome,Frm.cells,zF];go_wp2_with fail
     go_ret
     exact⟨Ai (by rw[HS2.o,hK.o.stop HX.o (by rw[HI2.o];decide),HI2.o];rfl),HE1.o.trans ((er.alloc _).trans (HE2.o.alloc _))⟩
    | some f=>
     have HI2:Hd (Dn m D x=if Dy f x then 3 else if Dd m f x=false then 9 else if x.op=4/\D=0 then 7 else if x.op=3/\16<=D then 2 else 0):=hd (by unfold Dn;rw[hfo]);have HWF:=hd (Aeq x f hfo);have hfc:Frm.cells s f=[.string s,.bool f.k,.int .i64 f.d,.int .i64 f.a,.int .i64 f.b,.int .i64 f.c,.int .i64 f.n,.int .i64 f.m,.bool f.p]:=rfl;simp only[hfo,Option.getD,Option.isSome,hfc];clear hfo HI;go_wp2_with fail
     refine(Yx s f x _).mono ?_
     rintro e W2 ⟨rfl,hW2⟩;have HF:=hd ((Blk.new W1 116 (Frm.cells s f).toArray).ext hW2 (by simp));have hff:=HF.o.cell;have hlf:=HF.o.lt;rw[hfc] at hff;have HX3:=hd ((HB3.o.alloc (.cells (Frm.cells s f).toArray 116)).ext hW2 (by simp));have HE3:=hd (HE2.o.trans ((er.alloc _).trans hW2));have hfm:=(HB2.o.ext HE3.o (by simp)).cell;have hlm:=(HB2.o.ext HE3.o (by simp)).lt;have hfx:=HX3.o.cell;have hlx:=HX3.o.lt;rw[hxc] at hfx;clear hW2 hf3 hl3 HB3 HF;cases hun:Dy f x with
     | true=>
      have HI3:Hd (Dn m D x=3):=hd (by rw[HI2.o,ijp hun]);clear hun;go_wp2_with fail
      go_ret
      exact⟨Ai (by rw[HS2.o,hK.o.stop HX.o (by rw[HI3.o];decide),HI3.o];rfl),HE1.o.trans ((er.alloc _).trans HE3.o)⟩
     | false=>
      have HI3:Hd (Dn m D x=if Dd m f x=false then 9 else if x.op=4/\D=0 then 7 else if x.op=3/\16<=D then 2 else 0):=hd (by rw[HI2.o,ijn (by simp[hun])]);clear hun HI2;go_wp2_with fail
      refine(Yy s m f x _ HWF.o HBN.o.1 HBN.o.2.1 HBN.o.2.2).mono ?_
      rintro e W3 ⟨rfl,hW3⟩;have HE4:=hd (HE3.o.trans hW3);have hfx2:=(HX3.o.ext hW3 (by simp)).cell;have hlx2:=(HX3.o.ext hW3 (by simp)).lt;rw[hxc] at hfx2;clear hff hlf hfm hlm hfx hlx hW3 HX3;cases hra:Dd m f x with
      | false=>
       have HI4:Hd (Dn m D x=9):=hd (by rw[HI3.o,ijp hra]);clear hra;go_wp2_with fail
       go_ret
       exact⟨Ai (by rw[HS2.o,hK.o.stop HX.o (by rw[HI4.o];decide),HI4.o];rfl),HE1.o.trans ((er.alloc _).trans HE4.o)⟩
      | true=>
       have HI5:Hd (Dn m D x=if x.op=4/\D=0 then 7 else if x.op=3/\16<=D then 2 else 0):=hd (by rw[HI3.o,ijn (by simp[hra])]);clear hra HI3;have hDk:=hK.o.2;have hop:x.op=3\/x.op=4\/((x.op==3)=false/\(x.op==4)=false):=by simp;omega
       rcases hop with hop|hop|⟨hn3,hn4⟩
       ·by_cases hD:16<=D
        ·have HI4:Hd (Dn m D x=2):=hd (by rw[HI5.o,ijn (by omega),ijp ⟨hop,hD⟩]);rw[hop] at hfx2;clear HI5;go_wp2_with fail
         go_ret
         exact⟨Ai (by rw[HS2.o,hK.o.stop HX.o (by rw[HI4.o];decide),HI4.o];rfl),HE1.o.trans ((er.alloc _).trans HE4.o)⟩
        ·have HI4:Hd (Dn m D x=0):=hd (by rw[HI5.o,ijn (by omega),ijn (by omega)]);have HD:Hd (Dk D x=D+1):=hd (by simp[Dk,hop]);rw[hop] at hfx2;clear HI5;go_wp2_with fail
         go_round
         case rel=>exact⟨k+1,Dk D x,by go_num,by rw[HD.o];go_num,by omega,hd (hK.o.next HX.o HI4.o),HE4.o⟩
         case measure=>simp[intOf];omega
       ·by_cases hD:D=0
        ·have HI4:Hd (Dn m D x=7):=hd (by rw[HI5.o,ijp ⟨hop,hD⟩]);rw[hop] at hfx2;clear HI5;go_wp2_with fail
         go_ret
         exact⟨Ai (by rw[HS2.o,hK.o.stop HX.o (by rw[HI4.o];decide),HI4.o];rfl),HE1.o.trans ((er.alloc _).trans HE4.o)⟩
        ·have HI4:Hd (Dn m D x=0):=hd (by rw[HI5.o,ijn (by omega),ijn (by omega)]);have HD:Hd (Dk D x=D-1):=hd (by simp[Dk,hop]);rw[hop] at hfx2;clear HI5;go_wp2_with fail
         go_round
         case rel=>exact⟨k+1,Dk D x,by go_num,by rw[HD.o];go_num,by omega,hd (hK.o.next HX.o HI4.o),HE4.o⟩
         case measure=>simp[intOf];omega
       ·have HI4:Hd (Dn m D x=0):=hd (by
         simp only[beq_eq_false_iff_ne] at hn3 hn4;rw[HI5.o,ijn (by omega),ijn (by omega)])
        have HD:Hd (Dk D x=D):=hd (by
         simp only[beq_eq_false_iff_ne] at hn3 hn4;simp[Dk,hn3,hn4])
        clear HI5;go_wp2_with fail
        go_round
        case rel=>exact⟨k+1,Dk D x,by go_num,by rw[HD.o],by omega,hd (hK.o.next HX.o HI4.o),HE4.o⟩
        case measure=>simp[intOf];omega
   ·have HK:=hd (hK.o.end (by omega));have HE:=hd (HE1.o.trans ((er.alloc _).trans hE));by_cases hD:0<D
    ·have HK2:Hd (Bh m 0 xs=7):=hd (by rw[HK.o,ijp hD]);clear hE;go_wp2_with fail
     go_ret
     exact⟨Ai (by rw[HS2.o,HK2.o];rfl),HE.o⟩
    ·have HK2:Hd (Bh m 0 xs=0):=hd (by rw[HK.o,ijn hD]);clear hE;go_wp2_with fail
     refine(Acg _ _ xs _ (HH.o.ext HE.o (by simp)) hl (Hc HK2.o) (Wm [1] HK2.o (by simp))).mono ?_
     rintro e W1 ⟨b,rfl,hW1,hBt⟩;have HTB:=hd (Ut (Hc HK2.o));have HTL:=hd (Se xs);have HE5:=hd (HE.o.trans hW1);have HBt:=hd hBt;have hlb:=hBt.lt;have HS3:Hd (r=if 40000000<(Fp xs).sum then 2 else 0):=hd (by rw[HS2.o,ijp HK2.o]);clear hW1 hBt HS2 HK;generalize Fp xs=ts at *;go_wp2_with fail
     go_loopw [12,81] (fun d i wr=>∃k:Nat,i=.int .i64 k/\d=.int .i64 (ts.take k).sum/\k<=ts.length/\(ts.take k).sum<=40000000/\wr=W1) (fun _ i _=>(xs.length-intOf i).toNat)
     case atStart=>exact⟨0,rfl,rfl,by omega,by simp,rfl⟩
     case round=>
      obtain⟨k,rfl,rfl,hk,hs,rfl⟩:=hrel;have hln:=HTL.o;by_cases hlt:k<ts.length
      ·obtain⟨t,ht⟩:∃t,ts[k]? = some t:=⟨_,List.getElem?_eq_getElem hlt⟩;have HT:=hd ht;obtain⟨ht0,ht1⟩:=HTB.o t (ilm ht);have hs0:0<=(ts.take k).sum:=Qt fun t ht=>(HTB.o t (List.mem_of_mem_take ht)).1
       have HSS:=hd (Sf ht)
       have hc:wr.cell? ⟨b,k,none⟩=some (.int .i64 t):=by
        rw[HBt.o.cell];simp[Db,ht]
       clear ht;generalize (ts.take k).sum=q at *;by_cases hgt:40000000<q+t
       ·go_wp2_with fail
        go_ret
        exact⟨Ai (by
         rw[HS3.o,if_pos];have:=Wn (fun t ht=>(HTB.o t ht).1) (l:=ts) (k+1);rw[HSS.o] at this;omega),HE5.o⟩
       ·go_wp2_with fail
        go_round
        case rel=>exact⟨k+1,by go_num,by rw[HSS.o],by omega,by rw[HSS.o];omega,by first|rfl|trivial⟩
        case measure=>simp[intOf];omega
      ·have hk2:k=ts.length:=by omega
       have hs2:ts.sum<=40000000:=by rw[hk2,List.take_length] at hs;exact hs
       have HS4:Hd (r=0):=hd (by rw[HS3.o,ijn (by omega)]);clear hs hs2;go_wp2_with fail
       go_ret
       exact⟨Ai HS4.o.symm,HE5.o⟩
def JE (w0:World)(_:Nat)(w:World):Prop:=Ext [] w0 w
theorem JE.less {w0:World}(k:Nat)(w:World)(h:JE w0 (k+1) w):JE w0 k w:=h
theorem JE.start {w0:World}{p:Nat}:JE w0 p w0.drew:=er.drew
theorem rgE {id:Nat}{Q:Exit->Act->World->Prop}{a:Act}{w:World}{l:List Oper}(p:Nat)(ks:List (Nat×Bo))(h:Ax prog l.toArray (JE w) (Ext []) (Bw ks) (fun a w=>wpList prog l.toArray Q (l.drop p) a w) 0 (l.take p) a (fun _ _=>True))(hm:(prog).follows .mixedOrders=true:=by kernel_rfl)(hB:Lm l.toArray p=true:=by kernel_rfl)(hs:Ah (Bw ks) (Ext []):=by repeat(first|exact Ah.nil|refine Ah.cons Bv.stays ?_)):(Code.region id l.toArray true).wp prog Q a w:=
 Am p (JE _) (Ext []) (Bw ks) hm hB JE.less hs JE.start h
def Bv (v:Value):Bo:=⟨Unit,(),fun _=>v,fun _ _=>True⟩
theorem Bv.stays {v:Value}{R:World->World->Prop}:∀y w w',R w w'->(Bv v).V y w->(Bv v).V y w':=fun _ _ _ _ h=>h
theorem Bj {P:Program}{ops:Array Oper}{S:Nat->Option Bo}{w0:World}{k:Nat}{o:Oper}{rest:List Oper}{a:Act}{F:Nat->World->Prop}{Q:Act->World->Prop}{v:Value}
  (hS:S k=some (Bv v)) (hw:Region.wanted o (yielded ops a.tmps)=true)
  (hh:∃(f:FuncId) (args:Array Value),(∀w,(execOp a.eval o).run P w=.ok (.enter f args) w)/\∀w (_:Nat),Ext [] w0 w->Calls P f args w fun e w'=>e=.returned v/\Ext [] w w')
  (h:Ax P ops (JE w0) (Ext []) S Q (k+1) rest (a.put o.dst v) (upd F k (fun _=>True))):Ax P ops (JE w0) (Ext []) S Q k (o :: rest) a F:=by
 obtain⟨f,args,hr,hu⟩:=hh;refine Ey (Bv v) hS hw ⟨f,args,hr,fun w n' hJ _=>?_⟩ (fun _=>h)
 refine(hu w n' hJ).mono ?_
 rintro e w' ⟨rfl,hE⟩;exact⟨(),rfl,trivial,Ext.trans hJ hE,hE⟩
structure Fld where
 name:Int
 kind:ByteArray
 low:Int
 high:Int
def Fld.cells (f:Fld):List Value:=[.int .u8 f.name,.string f.kind,.int .i64 f.low,.int .i64 f.high]
def Al (l:List Fld):List Value:=l.flatMap Fld.cells
theorem Lf (l:List Fld):(Al l).length=l.length*4:=by
 induction l with
 | nil=>rfl
 | cons x l ih=>simp only[Al,List.flatMap_cons,List.length_append] at ih⊢;rw[ih];simp[Fld.cells];omega
theorem Nw (xs:List Fld)(i:Nat)(x:Fld)(hx:xs[i]? = some x)(j:Nat)(u:Value)(hu:x.cells[j]? = some u):(Al xs)[i*4+j]? = some u:=by
 have hj:j<4:=(ils hu).1
 induction xs generalizing i with
 | nil=>simp at hx
 | cons y ys ih=>
  cases i with
  | zero=>
   simp only[List.getElem?_cons_zero,Option.some.injEq] at hx;subst hx;rw[Nat.zero_mul,Nat.zero_add];show(y.cells ++ Al ys)[j]? = _
   rw[List.getElem?_append_left (by simpa[Fld.cells] using hj)];exact hu
  | succ i=>
   show(y.cells ++ Al ys)[(i+1)*4+j]? = _
   rw[List.getElem?_append_right (by simp[Fld.cells];omega)];have:(i+1)*4+j-y.cells.length=i*4+j:=by simp[Fld.cells];omega
   rw[this];exact ih i (by simpa using hx)
def RdF (w:World)(A:Option Addr)(fs:List Fld):Prop:=
 fs=[]\/∃b o,A=some ⟨b,o,none⟩/\∀k x,fs[k]? = some x->∀j v,x.cells[j]? = some v->w.cell? ⟨b,o+k*4+j,none⟩=some v
theorem RdF.ext {S:List Nat}{w w':World}{A:Option Addr}{fs:List Fld}(h:RdF w A fs)(hE:Ext S w w')(hS:∀a,A=some a->a.block∉S):RdF w' A fs:=by
 rcases h with h|⟨b,o,rfl,h⟩
 ·exact .inl h
 ·exact .inr ⟨b,o,rfl,fun k x hx j v hv=>hE.held (h k x hx j v hv) (show b∉S from hS ⟨b,o,none⟩ rfl)⟩
theorem RdF.blk {w:World}{b:Nat}{t:TypeId}{fs:List Fld}(h:Blk w b t (Al fs).toArray):RdF w (some b) fs:=
 .inr ⟨b,0,rfl,fun k x hx j v hv=>by rw[Nat.zero_add,h.cell];simpa using Nw fs k x hx j v hv⟩
theorem RdF.own {w:World}{base b cap:Nat}{t:TypeId}{fs:List Fld}(h:w.ownsRow base t 4 (.slice (some b) fs.length cap) fs.length (Al fs)):RdF w (some b) fs:=
 .inr ⟨b,0,rfl,fun k x hx j v hv=>by
  have h2:=Nw fs k x hx j v hv;rw[Nat.zero_add,h.cellAt _ (by have:=(ils h2).1;rw[Lf] at this;exact this)];exact h2⟩
def Bb (fs:List Fld)(w:World)(e:Ending)(w':World):Prop:=∃A cap,e=.returned (.slice A fs.length cap)/\RdF w' A fs/\Ext [] w w'
def Ao (c:Int):Fld:=⟨c,⟨#[114]⟩,0,15⟩
def Ba (c:Int):Fld:=⟨c,⟨#[118]⟩,0,7⟩
theorem Pk {fn:Func}{p:Tmp}(h:fn.results=#[.cell p 154])(tmps:Array Value)(w:World)(g:Nat)(x:Fld)
  (hp:tmps.getD p undef=.pointer (some g)) (hg:Blk w g 154 x.cells.toArray):(results fn tmps).run prog w=.ok (.agg x.cells.toArray) w:=
 results_cell_row h tmps w g _ x.cells.toArray (0,0) _ hp hg underlying154 rfl (by kernel_rfl)
set_option maxRecDepth 4000
theorem Bm (c:Int)(w:World):Calls prog 123 #[.int .u8 c] w fun e w'=>e=.returned (.agg #[.int .u8 c,.string ⟨#[114]⟩,(0:Int),(15:Int)])/\Ext [] w w':=by
 go_enter func123,ntmps123
 go_wp2_with fail
 exact bodyPost_ret (Pk rfl _ _ w.heap.size (Ao c) rfl (Blk.new _ _ _)) rfl ⟨rfl,er.alloc _⟩
theorem Cp (c:Int)(w:World):Calls prog 124 #[.int .u8 c] w fun e w'=>e=.returned (.agg #[.int .u8 c,.string ⟨#[118]⟩,(0:Int),(7:Int)])/\Ext [] w w':=by
 go_enter func124,ntmps124
 go_wp2_with fail
 exact bodyPost_ret (Pk rfl _ _ w.heap.size (Ba c) rfl (Blk.new _ _ _)) rfl ⟨rfl,er.alloc _⟩
theorem Bs (k:Int)(w:World):Calls prog 108 #[k] w fun e w'=>e=.returned (.bool (inR k 4 15))/\w=w':=by
 go_enter func108,ntmps108
 go_wp2_with fail
 refine(Bp _ _ _ _).mono ?_
 rintro e w' ⟨rfl,rfl⟩;go_wp2_with fail
 go_ret
 exact⟨rfl,rfl⟩
def Jv (k:Int):Int:=if k=15 then 3 else if 11<=k then 1 else 2
theorem Cj (k:Int)(w:World):Calls prog 119 #[k] w fun e w'=>e=.returned (.int .i64 (Jv k))/\w=w':=by
 by_cases h1:k=15
 ·have h2:(k==15)=true:=by simpa using h1
  have H:Hd (Jv k=3):=hd (by simp[Jv,h1]);clear h1;go_enter func119,ntmps119
  go_wp2_with fail
  go_ret
  exact⟨Ai H.o.symm,rfl⟩
 ·have h2:(k==15)=false:=by simpa using h1
  by_cases h3:11<=k
  ·have H:Hd (Jv k=1):=hd (by simp[Jv,h1,h3]);clear h1;go_enter func119,ntmps119
   go_wp2_with fail
   go_ret
   exact⟨Ai H.o.symm,rfl⟩
  ·have H:Hd (Jv k=2):=hd (by simp[Jv,h1,h3]);clear h1;go_enter func119,ntmps119
   go_wp2_with fail
   go_ret
   exact⟨Ai H.o.symm,rfl⟩
def Sr (fs:List Fld)(c:Int):Bool:=fs.any fun f=>f.name==c
theorem Zi (f:Fld)(b:Nat)(c:Int)(w:World)(hp:w.cell? ⟨b,0,none⟩=some (.int .u8 c)) :
  Calls prog 105 #[.agg #[.int .u8 f.name,.string f.kind,.int .i64 f.low,.int .i64 f.high],.pointer (some b)] w fun e w'=>e=.returned (.bool (f.name==c))/\Ext [] w w':=by
 have hlt:=World.block_lt_of_cell? w _ hp;simp only at hlt;go_enter func105,ntmps105
 go_wp2_with fail
 go_ret
 exact⟨rfl,er.alloc _⟩
theorem Zj (A:Option Addr)(cap:Nat)(fs:List Fld)(b:Nat)(c:Int)(w:World)(h:RdF w A fs)(hp:w.cell? ⟨b,0,none⟩=some (.int .u8 c))(hl:fs.length<=100) :
  Calls prog 126 #[.slice A fs.length cap,.func (.func 105) #[] #[.pointer (some b)]] w fun e w'=>∃r:Int,e=.returned (.int .i64 r)/\(0<=r ↔ Sr fs c=true)/\Ext [] w w':=by
 have HH:=hd h;have HP:=hd hp;clear h hp;go_enter func126,ntmps126
 go_wp2_with fail
 go_loopw [8] (fun i wr=>∃k:Nat,i=.int .i64 k/\k<=fs.length/\Hd (∀j y,j<k->fs[j]? = some y->(y.name==c)=false)/\Ext [] w wr) (fun i _=>(fs.length-intOf i).toNat)
 case atStart=>exact⟨0,rfl,Nat.zero_le _,hd fun j y hj=>absurd hj (by omega),er⟩
 case round=>
  obtain⟨k,rfl,hk,hn,hE⟩:=hrel;by_cases hlt:k<fs.length
  ·obtain⟨f,hf⟩:∃f,fs[k]? = some f:=⟨_,List.getElem?_eq_getElem hlt⟩;rcases HH.o.ext hE (by simp) with h0|⟨g,o,rfl,hc⟩
   ·rw[h0] at hlt;simp at hlt
   ·have h0:=hc k f hf 0 _ rfl;have h1:=hc k f hf 1 _ rfl;have h2:=hc k f hf 2 _ rfl;have h3:=hc k f hf 3 _ rfl;simp only[Nat.add_zero] at h0;have HF:=hd hf;have HE:=hd hE;clear hc hf hE;go_wp2_with fail
    refine(Zi f b c _ (HE.o.held HP.o (by simp))).mono ?_
    rintro e w2 ⟨rfl,hE2⟩;have HE2:=hd (HE.o.trans hE2);clear hE2 h0 h1 h2 h3;cases hq:(f.name==c)
    ·have HQ:=hd hq;clear hq;go_wp2_with fail
     go_round
     case rel=>
      refine⟨k+1,by go_num,by omega,hd fun j z hj hz=>?_,HE2.o⟩
      rcases Nat.lt_or_ge j k with h1|h1
      ·exact hn.o j z h1 hz
      ·have:j=k:=by omega
       subst this;rw[HF.o] at hz;cases hz
       exact HQ.o
     case measure=>simp[intOf];omega
    ·have HQ:=hd hq;clear hq;go_wp2_with fail
     go_ret
     refine⟨_,rfl,?_,HE2.o⟩
     constructor
     ·intro _;exact List.any_eq_true.2 ⟨f,ilm HF.o,HQ.o⟩
     ·intro _;omega
  ·have HE:=hd hE;clear hE;go_wp2_with fail
   go_ret
   refine⟨_,rfl,?_,HE.o⟩
   constructor
   ·intro h0;omega
   ·intro hm;obtain⟨f,hf,hq⟩:=List.any_eq_true.1 hm;obtain⟨i,hi⟩:=List.getElem?_of_mem hf;have hil:=(ils hi).1;have:=hn.o i f (by omega) hi;rw[hq] at this;cases this
theorem Ss (A:Option Addr)(cap:Nat)(fs:List Fld)(b:Nat)(c:Int)(w:World)(h:RdF w A fs)(hp:w.cell? ⟨b,0,none⟩=some (.int .u8 c))(hl:fs.length<=100) :
  Calls prog 104 #[.slice A fs.length cap,.func (.func 105) #[] #[.pointer (some b)]] w fun e w'=>e=.returned (.bool (Sr fs c))/\Ext [] w w':=by
 go_enter func104,ntmps104
 go_wp2_with fail
 refine(Zj A cap fs b c w h hp hl).mono ?_
 rintro e w' ⟨r,rfl,hr,hE⟩;have HR:=hd hr;have HE:=hd hE;clear hr hE;go_wp2_with fail
 go_ret
 exact⟨Ay (by rw[Bool.eq_iff_iff];simp only[decide_eq_true_eq];exact HR.o),HE.o⟩
theorem Agf (A:Option Addr)(cap:Nat)(fs:List Fld)(b:Nat)(c:Int)(w:World)(h:RdF w A fs)(hp:w.cell? ⟨b,0,none⟩=some (.slice A fs.length cap))(hl:fs.length<=100) :
  Calls prog 103 #[.int .u8 c,.pointer (some b)] w fun e w'=>e=.returned (.bool (Sr fs c))/\Ext [] w w':=by
 have hlt:=World.block_lt_of_cell? w _ hp;simp only at hlt;have HH:=hd h;clear h;have hmf:∀(fn:Fn) (first cap:Array Value) (w:World),(Instr.makeFunc fn first cap).run prog w=.ok (.func fn first cap) w:=fun _ _ _ _=>rfl
 go_enter func103,ntmps103
 go_wp2_with fail
 refine(Ss A cap fs w.heap.size c _ (HH.o.ext ((Ext.refl [] w).alloc _) (by simp)) ?_ hl).mono ?_
 ·rw[(Blk.new w _ #[.int .u8 c]).cell];rfl
 rintro e w' ⟨rfl,hE⟩;have HE:=hd hE;clear hE;go_wp2_with fail
 go_ret
 exact⟨rfl,(er.alloc _).trans HE.o⟩
end Go.Proofs.YtkgmhggliifkjaaGreat
