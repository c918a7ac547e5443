import Derived.Test.YtkgmhggliifkjaaGreatP10
import Derived.Test.YtkgmhggliifkjaaGreatP24
import Derived.Lib.AppendZerosOnto
import Derived.Lib.SliceRun
import Derived.Lib.Overlaps
namespace Go.Proofs.YtkgmhggliifkjaaGreat
open Go.RowKit Go.Proofs.Tryz
set_option linter.all false
set_option maxHeartbeats 8000000
set_option maxRecDepth 4000
theorem Tb (k:Nat):codeCells (List.replicate k zI)=List.replicate (k*9) (.int .i64 0):=by
 induction k with
 | zero=>rfl
 | succ k ih=>
  rw[List.replicate_succ];show zI.cells ++ codeCells (List.replicate k zI)=_
  rw[ih,show(k+1)*9=9+k*9 by omega,<-List.replicate_append_replicate];rfl
theorem Gd (k:Nat):Builtin.zeroCells (Value.agg #[(0:Int),(0:Int),(0:Int),(0:Int),(0:Int),(0:Int),(0:Int),(0:Int),(0:Int)]).cells k=(codeCells (List.replicate k zI)).toArray:=by
 rw[Tb];apply Array.ext
 ·simp[Builtin.zeroCells,Value.cells]
 ·intro i h1 h2;simp[Builtin.zeroCells,Value.cells];have h9:i % 9<9:=Nat.mod_lt _ (by omega);generalize i % 9=j at h9
  match j,h9 with
  | 0,_|1,_|2,_|3,_|4,_|5,_|6,_|7,_|8,_=>rfl
theorem Df.ext {S:List Nat}{w w':World}{b n:Nat}(h:Df w b n)(hE:Ext S w w')(hS:b∉S):Df w' b n:=by
 obtain⟨xs,hx,hB⟩:=h;exact⟨xs,hx,hB.ext hE hS⟩
theorem Df.frozen {w:World}{b n:Nat}(h:Df w b n)(i:Nat):w.frozen? ⟨b,i,none⟩=false:=by
 obtain⟨xs,_,hB⟩:=h;exact hB.frozen i
theorem Df.reads {w:World}{b n:Nat}(h:Df w b n)(m:Nat)(hm:m<=n):∃xs:List Ins,xs.length=m/\RdC w (some b) xs:=by
 obtain⟨xs,hx,hB⟩:=h;refine⟨xs.take m,by simp;omega,.inr ⟨b,0,rfl,fun k x hxk j v hv=>?_⟩⟩
 rw[List.getElem?_take] at hxk;split at hxk
 ·rw[Nat.zero_add,hB.cell];have:=Da xs k x hxk j v hv;simpa using this
 ·cases hxk
theorem Df.cells {w:World}{b n:Nat}(h:Df w b n)(d m:Nat)(hm:d+m<=n):∃ys:List Ins,ys.length=m/\∀j v,(codeCells ys)[j]? = some v->w.cell? ⟨b,d*9+j,none⟩=some v:=by
 obtain⟨xs,hx,hB⟩:=h;refine⟨(xs.drop d).take m,by simp;omega,fun j v hv=>?_⟩
 rw[hB.cell];rw[<-Hn,List.getElem?_take] at hv;split at hv
 ·rw[<-Ho,List.getElem?_drop] at hv;simpa using hv
 ·cases hv
theorem RdC.codeCells {w:World}{b o:Nat}{xs:List Ins}(h:RdC w (some ⟨b,o,none⟩) xs):∀j u,(Go.Proofs.YtkgmhggliifkjaaGreat.codeCells xs)[j]? = some u->w.cell? ⟨b,o+j,none⟩=some u:=by
 intro j u hu;have hj:j<xs.length*9:=by rw[<-Bg];exact(ils hu).1
 rcases h with hx|⟨b',o',he,hc⟩
 ·rw[hx] at hj;simp at hj
 ·cases he
  have hk:j / 9<xs.length:=by omega
  obtain⟨x,hx⟩:∃x,xs[j / 9]? = some x:=⟨_,List.getElem?_eq_getElem hk⟩;have hr:j % 9<x.cells.length:=by show j % 9<9;omega
  have hget:=Da xs (j / 9) x hx (j % 9) _ (List.getElem?_eq_getElem hr);rw[show j / 9*9+j % 9=j by omega,hu] at hget;have:=hc (j / 9) x hx (j % 9) _ (List.getElem?_eq_getElem hr);rw[show o+j / 9*9+j % 9=o+j by omega,<-hget] at this;exact this
theorem Df.set {w:World}{b n:Nat}(h:Df w b n)(k f:Nat)(y:Int)(hk:k<n)(hf:f<9):Df (w.setCell ⟨b,k*9+f,none⟩ y) b n:=by
 obtain⟨xs,hx,hB⟩:=h;refine⟨xs.set k ((xs[k]'(by omega)).set f y),by simpa using hx,?_⟩
 rw[Mz xs k f y (by omega) hf];have:=hB.set_ (k*9+f) (.int .i64 y);simpa using this
theorem Gk {w:World}{b c n m cap c2 b2 d:Nat}(h:Df w b c)(ys:List Ins)(hys:ys.length=m)(hsrc:∀j v,(codeCells ys)[j]? = some v->w.cell? ⟨b2,d+j,none⟩=some v)(hroom:n+m<=cap)(hfit:n+m<=c) :
  ∃w',(∀ty,(Builtin.append_ #[28,28] ty #[.slice (some b) n cap,.slice (some ⟨b2,d,none⟩) m c2]).run prog w=.ok (.slice (some b) (n+m) cap) w')/\Df w' b c/\Ext [b] w w':=by
 obtain⟨i0,hi0,hz0,hz1,hz2⟩:=info_parts Lp;obtain⟨xs,hx,hB⟩:=h;refine⟨_,fun ty=>run_append_room (P:=prog) w 28 ty 76 i0 underlying28 hi0 b n cap (codeCells xs).toArray hB ⟨b2,d,none⟩ m c2 (codeCells ys) (by rw[hz1,Bg,hys]) (fun j u hu=>by rw[Addr.add_mk];exact hsrc j u hu) (Jc ys) hroom (by rw[hz1,Bg];simp[Bg];omega),?_,?_⟩
 ·refine⟨xs.take n ++ ys ++ xs.drop (n+m),by simp;omega,?_⟩
  unfold Blk;rw[setRow_heap w b _ _ _ _ hB];refine congrArg (fun z=>some (Obj.cells z 76 (0,0))) ?_
  rw[Cb,Cb,<-Hn,<-Ho,hz1,Bg,hys,Nat.add_mul]
 ·exact⟨rfl,rfl,rfl,by simp[World.setRow],fun i _ hi=>setRow_other w b i _ (by simpa using hi)⟩
theorem Hs {w:World}{n m cap c2 b2 d:Nat}(base:Option Addr)(xs ys:List Ins)(hxs:xs.length=n)(hys:ys.length=m)(hb:(base=none/\n=0/\cap=0)\/∃b o,base=some ⟨b,o,none⟩/\∀j v,(codeCells xs)[j]? = some v->w.cell? ⟨b,o+j,none⟩=some v)
  (hsrc:∀j v,(codeCells ys)[j]? = some v->w.cell? ⟨b2,d+j,none⟩=some v) (hm:0<m) (hg:cap<n+m) (hl:n+m<=1000000) :
  ∃cap' w',(∀ty,(Builtin.append_ #[28,28] ty #[.slice base n cap,.slice (some ⟨b2,d,none⟩) m c2]).run prog w=.ok (.slice (some w.heap.size) (n+m) cap') w')/\n+m<=cap'/\cap'<=9223372036854775807/\Df w' w.heap.size cap'/\Ext [] w w':=by
 obtain⟨i0,hi0,hz0,hz1,hz2⟩:=info_parts Lp;have hge:=grownCap_ge w (n+m) cap 76;have hle:=grownCap_le_maxLen w (n+m) cap 76 (by unfold maxLen;omega);have h63:grownCap w (n+m) cap 76<=9223372036854775807:=by unfold maxLen at hle;omega
 rcases hb with⟨rfl,rfl,rfl⟩|⟨b,o,rfl,hold⟩
 ·have hx0:xs=[]:=List.eq_nil_of_length_eq_zero hxs;subst hx0;rw[Nat.zero_add] at *;refine⟨grownCap w m 0 76,_,fun ty=>run_append_nil (P:=prog) w 28 ty 76 i0 _ underlying28 hi0 hz0 ⟨b2,d,none⟩ m c2 (codeCells ys) (by rw[hz1,Bg,hys]) (fun j u hu=>by rw[Addr.add_mk];exact hsrc j u hu) hm (by omega) (by rw[hz2];omega),hge,h63,?_,(er.drew).alloc _⟩
  refine⟨ys ++ List.replicate (grownCap w m 0 76-m) zI,by simp;omega,?_⟩
  rw[Gd,Cb];have:=Blk.new w.drew 76 (codeCells ys ++ codeCells (List.replicate (grownCap w m 0 76-m) zI)).toArray;simpa using this
 ·refine⟨grownCap w (n+m) cap 76,_,fun ty=>run_append_grow (P:=prog) w 28 ty 76 i0 _ underlying28 hi0 hz0 ⟨b,o,none⟩ n cap (codeCells xs) (by rw[hz1,Bg,hxs]) (fun j u hu=>by rw[Addr.add_mk];exact hold j u hu) ⟨b2,d,none⟩ m c2 (codeCells ys) (by rw[hz1,Bg,hys]) (fun j u hu=>by rw[Addr.add_mk];exact hsrc j u hu) hg (by omega) (by rw[hz2];exact growslice_fits hg (by omega)),hge,h63,?_,(er.drew).alloc _⟩
  refine⟨xs ++ ys ++ List.replicate (grownCap w (n+m) cap 76-(n+m)) zI,by simp;omega,?_⟩
  rw[Gd,Cb,Cb];have:=Blk.new w.drew 76 (codeCells xs ++ codeCells ys ++ codeCells (List.replicate (grownCap w (n+m) cap 76-(n+m)) zI)).toArray;simpa using this
theorem Oz {w:World}{n m cap b o:Nat}(xs:List Ins)(hxs:xs.length=n)(hold:∀j v,(codeCells xs)[j]? = some v->w.cell? ⟨b,o+j,none⟩=some v)(hm:0<m)(hg:cap<n+m)(hl:n+m<=1000000) :
  ∃cap' w',(∀ty,(Builtin.append_ #[28,3] ty #[.slice (some ⟨b,o,none⟩) n cap,m]).run prog w=.ok (.slice (some w.heap.size) (n+m) cap') w')/\n+m<=cap'/\cap'<=9223372036854775807/\Df w' w.heap.size cap'/\Ext [] w w':=by
 obtain⟨i0,hi0,hz0,hz1,hz2⟩:=info_parts Lp;have hge:=grownCap_ge w (n+m) cap 76;have hle:=grownCap_le_maxLen w (n+m) cap 76 (by unfold maxLen;omega);have h63:grownCap w (n+m) cap 76<=9223372036854775807:=by unfold maxLen at hle;omega
 have hf:(Builtin.firstCells i0.size n (.slice (some ⟨b,o,none⟩) n cap)).run prog w.drew=.ok (codeCells xs).toArray w.drew:=by
  rw[hz1];exact run_firstCells_some w.drew 9 n ⟨b,o,none⟩ n cap (codeCells xs) (by rw[Bg,hxs]) (fun j v hj=>by rw[Addr.add_mk];exact hold j v hj)
 refine⟨grownCap w (n+m) cap 76,_,fun ty=>Lib.run_append_grow_zeros (P:=prog) w 28 3 ty 76 i0 _ .i64 .i64 underlying28 underlying3 hi0 hz0 (some ⟨b,o,none⟩) n cap (codeCells xs) hf m hm (by rw[hz1];decide) hg (by omega) (by rw[hz2];omega) (by rw[hz2];exact growslice_fits hg (by omega)),hge,h63,?_,(er.drew).alloc _⟩
 refine⟨xs ++ List.replicate m zI ++ List.replicate (grownCap w (n+m) cap 76-(n+m)) zI,by simp;omega,?_⟩
 rw[Gd,Gd,Cb,Cb];have:=Blk.new w.drew 76 (codeCells xs ++ codeCells (List.replicate m zI) ++ codeCells (List.replicate (grownCap w (n+m) cap 76-(n+m)) zI)).toArray;simpa using this
theorem Aaf {w:World}{b c n m cap:Nat}(h:Df w b c)(hm:0<m)(hfit:n+m<=c) :
  ∃w',(∀ty,(Builtin.clear_ #[28] ty #[.slice (some ⟨b,n*9,none⟩) m cap]).run prog w=.ok (.tuple #[]) w')/\Df w' b c/\Ext [b] w w':=by
 obtain⟨i0,hi0,hz0,hz1,hz2⟩:=info_parts Lp;obtain⟨xs,hx,hB⟩:=h;have hst:=run_storeCells_at prog b (n*9) 76 (codeCells (List.replicate m zI)) 0 (codeCells xs).toArray w hB (by simp[Bg];omega) (Jc _);simp only[Nat.add_zero] at hst;obtain⟨k,rfl⟩:∃k,m=k+1:=⟨m-1,by omega⟩;have hz:(Builtin.zeroCells (Value.agg #[(0:Int),(0:Int),(0:Int),(0:Int),(0:Int),(0:Int),(0:Int),(0:Int),(0:Int)]).cells (k+1)).toList=codeCells (List.replicate (k+1) zI):=by rw[Gd]
 refine⟨w.setRow b ((codeCells xs).toArray.toList.take (n*9) ++ codeCells (List.replicate (k+1) zI) ++ (codeCells xs).toArray.toList.drop (n*9+(codeCells (List.replicate (k+1) zI)).length)).toArray,fun ty=>?_,?_,?_⟩
 ·simp[Builtin.clear_,run_underlying underlying28,zeroValue,typeInfo,hi0,hz0,hz,hst]
 ·refine⟨xs.take n ++ List.replicate (k+1) zI ++ xs.drop (n+(k+1)),by simp;omega,?_⟩
  unfold Blk;rw[setRow_heap w b _ _ _ _ hB];refine congrArg (fun z=>some (Obj.cells z 76 (0,0))) ?_
  rw[Cb,Cb,<-Hn,<-Ho,Bg,List.length_replicate,Nat.add_mul n]
 ·exact⟨rfl,rfl,rfl,by simp[World.setRow],fun i _ hi=>setRow_other w b i _ (by simpa using hi)⟩
end Go.Proofs.YtkgmhggliifkjaaGreat
