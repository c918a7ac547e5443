import Derived.Test.YtkgmhggliifkjaaGreatP07
import Derived.Test.YtkgmhggliifkjaaGreatP10
namespace Go.Proofs.YtkgmhggliifkjaaGreat
open Go.RowKit Go.Proofs.Tryz
set_option linter.all false
set_option maxHeartbeats 8000000
set_option maxRecDepth 100000
theorem RdC.exto {S:List Nat}{w w':World}{A:Option Addr}{xs:List Ins}(h:RdC w A xs)(hE:Ext S w w')(hS:xs=[]\/∀a,A=some a->a.block∉S):RdC w' A xs:=by
 rcases hS with h0|hS
 ·exact .inl h0
 ·exact h.ext hE hS
def Ae1 (i:Nat):Value:=.int .i64 (i:Int)
def Jm (xs:List Ins)(k:Nat):List Int:=(List.range xs.length).map fun i=>((eSt xs k).2 i:Int)
theorem Acp {xs:List Ins}{k j:Nat}{l:List Nat}{x:Ins}(hx:xs[k]? = some x)(h4:x.op=4)(ho:(eSt xs k).1=j :: l):(Db (Jm xs k)).setIfInBounds j (.int .i64 k)=Db (Jm xs (k+1)):=by
 unfold Jm Db;rw[Mk hx h4,ho];simp only[Zt,List.headD_cons];apply Array.ext
 ·simp
 ·intro i h1 h2;by_cases hk:j=i
  ·subst hk;simp
  ·have h3:¬i=j:=by omega
   simp[hk,h3]
theorem Zw (xs:List Ins):Db (Jm xs 0)=Db (Fz xs 0):=by
 rw[Lq];unfold Jm;congr 1
 apply List.ext_getElem
 ·simp
 ·intro i h1 h2;simp[eSt]
structure Lk (w:World)(B:Nat)(xs:List Ins)(k:Nat)(v:Value)(wr:World):Prop where
 up:Ext [] w wr
 o:Blk wr B 3 (Db (Jm xs k))
 own:wr.ownsRow (B+1) 3 1 v (eSt xs k).1.length (((eSt xs k).1.reverse).map Ae1)
section
variable {w:World} {xs:List Ins} {k:Nat} {x:Ins} {wr w2:World} {v:Value} {o:Obj}
theorem Lk.start (w:World)(xs:List Ins):Lk w w.heap.size xs 0 (.slice none 0 0) (w.alloc (.cells (Db (Fz xs 0)) 3)) where
 up:=er.alloc _
 o:=by rw[Zw];exact Blk.new _ _ _
 own:=⟨rfl,.inl ⟨rfl,rfl⟩⟩
theorem Lk.alloc (h:Lk w w.heap.size xs k v wr)(o:Obj):Lk w w.heap.size xs k v (wr.alloc o):=⟨h.up.alloc _,h.o.alloc _,h.own.alloc _⟩
theorem Lk.same (h:Lk w w.heap.size xs k v wr)(hx:xs[k]? = some x)(h3:x.op≠3)(h4:x.op≠4):Lk w w.heap.size xs (k+1) v wr:=by
 have he:=Kf hx h3 h4;refine⟨h.up,?_,?_⟩
 ·have:=h.o;unfold Jm at *;rw[he];exact this
 ·rw[he];exact h.own
theorem Lk.pop {g j n cap:Nat}{l:List Nat}(h:Lk w w.heap.size xs k (.slice (some g) (l.length+1) cap) wr)(hx:xs[k]? = some x)(h4:x.op=4)(ho:(eSt xs k).1=j :: l) :
  Lk w w.heap.size xs (k+1) (.slice (some g) l.length cap) (wr.setCell ⟨w.heap.size,j,none⟩ k):=by
 have hown:=h.own;rw[ho] at hown;have h1:(eSt xs (k+1)).1=l:=by rw[Mk hx h4,ho];rfl
 refine⟨h.up.setCell (.inr (Nat.le_refl _)) _,h.o.set_' j _ _ (Acp hx h4 ho),?_⟩
 rw[h1];refine ownsRow_pop (last:=[Ae1 j]) (by simp) ?_
 have h2:=ownsRow_setCell_below (a:=⟨w.heap.size,j,none⟩) hown (by simp) (.int .i64 k);simpa using h2
theorem Lk.push {o2:Obj}{g2 cap2:Nat}{row:Option Nat}(h:Lk w w.heap.size xs k v wr)(hx:xs[k]? = some x)(h3:x.op=3)
  (ho:w2.ownsRow (w.heap.size+1) 3 1 (.slice (some g2) ((eSt xs k).1.length+1) cap2) ((eSt xs k).1.length+1) ((((eSt xs k).1.reverse).map Ae1) ++ [.int .i64 k]))
  (hg:(wr.alloc o2).grownBy w2 row) (hrow:∀g,row=some g->w.heap.size+1<=g) :
  Lk w w.heap.size xs (k+1) (.slice (some g2) ((eSt xs k).1.length+1) cap2) w2:=by
 have he:=Iw hx h3;refine⟨(h.up.alloc o2).grown hg (fun j hj=>.inr (by have:=hrow j hj;omega)),?_,?_⟩
 ·have:=(h.o.alloc o2).grown hg (fun hj=>by have:=hrow _ hj;omega);unfold Jm at *;rw[he];exact this
 ·rw[he];simpa[Ae1] using ho
end
theorem Vb (m:Mc)(A:Option Addr)(cap:Nat)(xs:List Ins)(w:World)(h:RdC w A xs)(hl:xs.length<=100000)(hc:Bh m 0 xs=0) :
  Calls prog 73 #[.slice A xs.length cap] w fun e w'=>∃b:Nat,e=.returned (.slice (some b) xs.length xs.length)/\Ext [] w w'/\Blk w' b 3 (Db (Jm xs xs.length))/\w.heap.size<=b:=by
 have HH:=hd h;have HC:=hd hc;clear h hc;obtain⟨i0,hi0,hz0,hz1,hz2⟩:=info_parts (show((prog).info? 3).map (fun i=>(i.zero,i.size,i.bytes))=some (some (.int .i64 0),1,8) by kernel_rfl)
 have hmk:∀W:World,(Instr.makeSlice 22 (.int .i64 xs.length) (.int .i64 xs.length)).run prog W=.ok (.slice (some W.heap.size) xs.length xs.length) (W.alloc (.cells (Db (Fz xs 0)) 3)):=by
  intro W;rw[run_make_row' 22 3 (.int .i64 0) 8 underlying22 (by kernel_rfl) rfl .i64 .i64 xs.length (by omega) (by omega) W,Lq];congr 3
  apply Array.ext
  ·simp[Db,madeCells]
  ·intro i h1 h2;simp[Db,madeCells,Nat.mod_one]
 have HS0:=hd (Lk.start w xs);generalize hcs:Db (Fz xs 0)=cs at *;go_enter func73,ntmps73
 go_wp2_with fail
 go_loopw [4,12] (fun v i wr=>∃(k:Nat) (u:Value),i=.int .i64 k/\u=v/\k<=xs.length/\Hd (Lk w w.heap.size xs k u wr)) (fun _ i _=>(xs.length-intOf i).toNat)
 case atStart=>exact⟨0,_,rfl,rfl,by omega,HS0⟩
 case round=>
  obtain⟨k,u,rfl,rfl,hk,HS⟩:=hrel;by_cases hlt:k<xs.length
  ·obtain⟨x,hx⟩:∃x,xs[k]? = some x:=⟨_,List.getElem?_eq_getElem hlt⟩;obtain⟨b,o,rfl,hb,hcx⟩:=((HH.o.ext HS.o.up (by simp))).at hx;have h0:=hcx 0 _ rfl;have h1:=hcx 1 _ rfl;have h2:=hcx 2 _ rfl;have h3:=hcx 3 _ rfl;have h4:=hcx 4 _ rfl;have h5:=hcx 5 _ rfl;have h6:=hcx 6 _ rfl;have h7:=hcx 7 _ rfl;have h8:=hcx 8 _ rfl;simp only[Nat.add_zero] at h0;have HX:=hd hx;clear hcx hx;have hop:x.op=3\/x.op=4\/((x.op==3)=false/\(x.op==4)=false):=by simp;omega
   rcases hop with h|h|⟨hn3,hn4⟩
   ·have HOP:=hd h;have hlo:=HS.o.o.lt;have hsl:(eSt xs k).1.length<=k:=Qz k;have HOB:Hd (∀q,u.ownBlock=some q->w.heap.size+1<=q):=hd (fun q hq=>Bf HS.o.own q hq);rw[h] at h0;clear h
    go_wp2_with (
     refine wpList_append_lies _ rfl _ _ 22 rfl (w.heap.size+1) 3 i0 (.int .i64 0) 1 8 underlying22 hi0 hz0 hz1 hz2 rfl (by decide) _ _ _ rfl ((HS.o.own.alloc _).alloc _) ⟨wr.heap.size+1,0,none⟩ 1 1 [.int .i64 k] rfl rfl ?c1 ?c2 (by decide) ?c3 ?c4 ?c5 _ rfl ?_
     case c1=>exact World.news_of_block (Blk.new' _ _ #[k] _ (by simp))
     case c2=>intro u hu;simp at hu;subst hu;rfl
     case c3=>unfold maxLen;omega
     case c4=>omega
     case c5=>simp;omega
     intro g2 cap2 w2 ho2 hg2 ha2 hlt2;have HN:Hd (Lk w w.heap.size xs (k+1) (.slice (some g2) ((eSt xs k).1.length+1) cap2) w2):=hd (Lk.push (HS.o.alloc _) HX.o HOP.o ho2 hg2 HOB.o);clear ho2 hg2 ha2)
    go_round
    case rel=>exact⟨k+1,_,by go_num,rfl,by omega,HN⟩
    case measure=>simp[intOf];omega
   ·obtain⟨j,l,hj⟩:=Aev HC.o HX.o h;have hjk:j<k:=Ag7 k j (by rw[hj];simp);have hsl:l.length+1<=k:=by have:=Qz (xs:=xs) k;rw[hj] at this;simpa using this
    have hown:=HS.o.own;rw[hj] at hown;obtain⟨g,cap',rfl,hg1,hg2⟩:=hown.form (by simp)
    have hcap:l.length+1<=cap':=by
     rcases hown.2 with⟨h0,_⟩|⟨g',c',cur,h0,_,_,h2,_⟩
     ·cases h0
     ·cases h0;simpa using h2
    have hct:wr.cell? ⟨g,l.length,none⟩=some (.int .i64 j):=by
     rw[hown.cellAt l.length (by simp)];simp[Ae1]
    have hoc:=HS.o.o.cell j;have hof:=HS.o.o.frozen j;have hol:=HS.o.o.lt
    have hoc2:wr.cell? ⟨w.heap.size,j,none⟩=some (.int .i64 ((eSt xs k).2 j)):=by
     rw[hoc];simp[Db,Jm,show j<xs.length by omega]
    have HN:=hd (fun o=>(HS.o.pop (n:=0) HX.o h hj).alloc o);rw[h] at h0;have HJ:=hd hj;clear hoc hown hj h;go_wp2_with fail
    go_round
    case rel=>exact⟨k+1,_,by go_num,rfl,by omega,hd (HN.o _)⟩
    case measure=>simp[intOf];omega
   ·have HN:=hd (fun o=>(HS.o.alloc o).same HX.o (by simpa using hn3) (by simpa using hn4));go_wp2_with fail
    go_round
    case rel=>exact⟨k+1,_,by go_num,rfl,by omega,hd (HN.o _)⟩
    case measure=>simp[intOf];omega
  ·have hke:k=xs.length:=by omega
   subst hke;go_wp2_with fail
   go_ret
   exact⟨_,rfl,HS.o.up,HS.o.o,Nat.le_refl _⟩
end Go.Proofs.YtkgmhggliifkjaaGreat
