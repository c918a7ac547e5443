import Derived.Test.YtkgmhggliifkjaaGreatP38
namespace Go.Proofs.YtkgmhggliifkjaaGreat
open Go.RowKit Go.Proofs.Tryz
set_option linter.all false
set_option maxHeartbeats 8000000
set_option maxRecDepth 100000
attribute [local irreducible] Ax
structure Th (u:Value->Value->Array Value)(K N c:Nat)(vb vs:Value)(k:Nat)(lb ls:List Value)(wq:World)(r:Nat->Bool)(w:World):Prop where
 ext:Ext (c :: two vb vs) wq w
 rowb:r 10=true->w.ownsRow K 22 1 vb k lb
 rows:r 19=true->w.ownsRow K 80 1 vs k ls
 chip:∃v8,Blk w c 52 (u v8 vs)/\(r 22=true->v8=vb)/\(r 22=false->∃x:Nat×Nat,v8=(Hp K wq.heap.size 22 k vb lb (XI wq.heap.size N)).f x/\(Hp K wq.heap.size 22 k vb lb (XI wq.heap.size N)).V x w)
section
variable {u:Value->Value->Array Value} {K N c:Nat} {vb vs:Value} {k:Nat} {lb ls:List Value} {wq w w':World} {r:Nat->Bool}
theorem Th.idle (h:Th u K N c vb vs k lb ls wq r w)(ha:Ap c vb vs wq.heap.size)(hE:Ext [] w w')(i:Nat)(hi:i≠10/\i≠19/\i≠22):Th u K N c vb vs k lb ls wq (off r i) w':=by
 obtain⟨v8,h1,h2,h3⟩:=h.chip;refine⟨h.ext.trans (hE.nil),fun hr=>An (h.rowb (by rwa [Dj hi.1] at hr)) hE (by simp),fun hr=>An (h.rows (by rwa [Dj hi.2.1] at hr)) hE (by simp),v8,h1.ext hE (by simp),by rw[Dj hi.2.2];exact h2,fun hr=>?_⟩
 rw[Dj hi.2.2] at hr;obtain⟨x,e,hx⟩:=h3 hr;exact⟨x,e,Hp.ext hx hE (fun y hy=>hy.ext hE (by simp)) (by simp)⟩
theorem Th.app10 (h:Th u K N c vb vs k lb ls wq r w)(ha:Ap c vb vs wq.heap.size)(hE:Ext vb.ownBlock.toList w w')(h22:r 22=true):Th u K N c vb vs k lb ls wq (off r 10) w':=by
 obtain⟨v8,h1,h2,h3⟩:=h.chip;refine⟨h.ext.trans (hE.mono (fun x hx=>.inl (List.mem_cons_of_mem _ (Ag0 hx)))),fun hr=>by simp[off] at hr,fun hr=>An (h.rows (by rwa [Dj (by decide)] at hr)) hE (fun g hg hm=>?_),v8,h1.ext hE (fun hm=>?_),by rw[Dj (by decide)];exact h2,fun hr=>?_⟩
 ·exact ha.bs g g (by simpa using hm) hg rfl
 ·exact(ha.b c (by simpa using hm)).2 rfl
 ·rw[Dj (by decide),h22] at hr;cases hr
theorem Th.app19 (h:Th u K N c vb vs k lb ls wq r w)(ha:Ap c vb vs wq.heap.size)(hE:Ext vs.ownBlock.toList w w')(h22:r 22=true):Th u K N c vb vs k lb ls wq (off r 19) w':=by
 obtain⟨v8,h1,h2,h3⟩:=h.chip;refine⟨h.ext.trans (hE.mono (fun x hx=>.inl (List.mem_cons_of_mem _ (Ag1 hx)))),fun hr=>An (h.rowb (by rwa [Dj (by decide)] at hr)) hE (fun g hg hm=>?_),fun hr=>by simp[off] at hr,v8,h1.ext hE (fun hm=>?_),by rw[Dj (by decide)];exact h2,fun hr=>?_⟩
 ·exact ha.bs g g hg (by simpa using hm) rfl
 ·exact(ha.s c (by simpa using hm)).2 rfl
 ·rw[Dj (by decide),h22] at hr;cases hr
end
structure JW1 (u:Value->Array Value)(K c:Nat)(v:Value)(k:Nat)(l:List Value)(wq:World)(r:Nat->Bool)(w:World):Prop where
 ext:Ext v.ownBlock.toList wq w
 row:r 9=true->w.ownsRow K 22 1 v k l
 mach:Blk w c 52 (u v)
section
variable {u:Value->Array Value} {K c H N:Nat} {v:Value} {k:Nat} {l:List Value} {wq w w':World} {r:Nat->Bool} {j:Nat}
theorem JW1.idle (h:JW1 u K c v k l wq r w)(hE:Ext [] w w')(i:Nat)(hi:i≠9):JW1 u K c v k l wq (off r i) w':=
 ⟨h.ext.trans hE.nil,fun hr=>An (h.row (by rwa [Dj hi] at hr)) hE (by simp),h.mach.ext hE (by simp)⟩
theorem JW1.app (h:JW1 u K c v k l wq r w)(hc:∀g,v.ownBlock=some g->g<H/\g≠c)(hE:Ext v.ownBlock.toList w w'):JW1 u K c v k l wq (off r 9) w':=
 ⟨h.ext.trans hE,fun hr=>by simp[off] at hr,h.mach.ext hE (fun hm=>(hc c (by simpa using hm)).2 rfl)⟩
def RW1 (v:Value)(i:Nat)(w w':World):Prop:=Ext (if i=9 then v.ownBlock.toList else []) w w'
theorem RW1.nil (hE:Ext [] w w'){i:Nat}:RW1 v i w w':=hE.nil
theorem RW1.low (hc:∀g,v.ownBlock=some g->g<H/\g≠c)(h:RW1 v j w w'):∃T,Ext T w w'/\(∀x∈T,x<H)/\(j≠9->∀g,v.ownBlock=some g->g∉T):=by
 refine⟨_,h,?_,?_⟩
 ·intro x hx;split at hx
  ·exact(hc x (by simpa using hx)).1
  ·cases hx
 ·intro hj g hg hm;rw[ijn hj] at hm;cases hm
theorem Afv (hc:∀g,v.ownBlock=some g->g<H/\g≠c){i:Nat}{s:Bo}(hs:Bw [(7,Ih H N),(8,Je H (XI H N)),(9,Hp K H 22 k v l (XI H N))] i=some s)(hj:j≠i):∀x w w',RW1 v j w w'->s.V x w->s.V x w':=by
 have hm:=Fe hs;simp only[List.mem_cons,Prod.mk.injEq,List.not_mem_nil,or_false] at hm;intro x w w' hR hV;obtain⟨T,hE,hT,hb⟩:=RW1.low hc hR;rcases hm with⟨rfl,rfl⟩|⟨rfl,rfl⟩|⟨rfl,rfl⟩
 ·exact⟨hV.1.ext hE (fun h=>by have h1:=hT _ h;have h2:=hV.2;omega),hV.2⟩
 ·obtain⟨h1,u,h2,h3,h4⟩:=hV;exact⟨h1,u,hE.held h2 (fun h=>by have:=hT _ h;dsimp only at this;omega),h3,h4.ext hE hT⟩
 ·refine Hp.ext hV hE (fun y hy=>hy.ext hE hT) ?_
  obtain⟨y,_,_,h3⟩:=hV;rcases h3 with h3|h3
  ·exact hb hj _ h3
  ·exact fun h=>by have:=hT _ h;omega
end
structure Ti (K N k:Nat)(v:Value)(w:World)(wr:Nat->Nat):Prop where
 row:w.ownsRow K 22 1 v k (rows wr N k)
 one:∀i,i<k->Blk w (wr i) 3 (Dg N)/\K<=wr i
theorem Ti.nil (K N:Nat)(w:World):Ti K N 0 (.slice none 0 0) w (fun _=>0):=⟨⟨rfl,.inl ⟨rfl,rfl⟩⟩,fun i h=>by omega⟩
theorem Ti.more {K N k H:Nat}{v:Value}{wq w:World}{wr:Nat->Nat}(h:Ti K N k v wq wr)(hK:K<=H){T:List Nat}(hE:Ext T wq w)(hT:∀x∈T,∀t C,Blk wq x t C->t≠3){g c:Nat}{y:Value}
  (x:XI H N y w) (r:w.ownsRow K 22 1 (.slice (some g) (k+1) c) (k+1) (rows wr N k ++ [y])):∃wr',Ti K N (k+1) (.slice (some g) (k+1) c) w wr':=by
 obtain⟨b,e,B,l⟩:=x;subst e;refine⟨fun j=>if j<k then wr j else b,by rw[Pa];exact r,fun j hj=>?_⟩
 by_cases hjk:j<k
 ·simp only[ijp hjk];obtain⟨a1,a2⟩:=h.one j hjk;exact⟨a1.ext hE (fun hm=>hT _ hm _ _ a1 rfl),a2⟩
 ·simp only[ijn hjk];exact⟨B,by omega⟩
theorem Ti.ext {K N k:Nat}{v:Value}{w w':World}{wr:Nat->Nat}{T:List Nat}(h:Ti K N k v w wr)(hE:Ext T w w')(hT:∀g t C,Blk w g t C->t=3\/t=22->g∉T):Ti K N k v w' wr:=
 ⟨An h.row hE (fun g hg=>by obtain⟨C,hC⟩:=Ea h.row hg;exact hT g _ C hC (by simp)),fun j hj=>⟨(h.one j hj).1.ext hE (hT _ _ _ (h.one j hj).1 (by simp)),(h.one j hj).2⟩⟩
theorem RdC.blk_lt {w:World}{A:Option Addr}{xs:List Ins}(h:RdC w A xs)(a:Addr)(ha:A=some a)(hx:xs≠[]):a.block<w.heap.size:=by
 cases xs with
 | nil=>exact absurd rfl hx
 | cons x l=>
  obtain⟨b,o,he,hb,_⟩:=h.at (k:=0) (x:=x) rfl;rw[he] at ha;cases ha
  exact hb
def Afw (H:Nat):Bo:=⟨Nat,0,fun b=>.map (some b),fun b w=>Hg w b (fun _=>none)/\H<=b⟩
def Ahy (m:Mc)(xs:List Ins)(main:List Int)(A0:Option Addr)(w:World)(e:Ending)(w':World):Prop:=
 ∃R:RA,e=.returned (.pointer (some R.A.c))/\Ext [] w w'/\Ak w' R m xs (MS.new main xs.length)/\R.A.code=A0/\∀b,R.A.kd b<40->w.heap.size<=b\/(xs≠[]/\∃a,A0=some a/\a.block=b)
theorem Yj (m:Mc)(hok:m.okB=true)(A0:Option Addr)(c0:Nat)(xs:List Ins)(B0:Option Addr)(d0:Nat)(main:List Int)(w:World)(h:RdC w A0 xs)(hl:xs.length<=100000)(hm:RdI w B0 main)(hml:(main.length:Int)=m.main) :
  Calls prog 15 #[.agg m.cells.toArray,.slice A0 xs.length c0,.slice B0 main.length d0] w (Ahy m xs main A0 w):=by
 have hmc:=Bc hok;have HMC:=hd (fun W (hW:Ext [] w W)=>Na B0 d0 main W (hm.ext hW (by simp)) (by omega) (by omega));have HRC:=hd h;obtain⟨m0,m1,m2,m3,m4⟩:=m;dsimp only at hmc hml;obtain⟨q,rfl⟩:∃q:Nat,m4=q:=⟨m4.toNat,by omega⟩;obtain⟨NB,rfl⟩:∃q:Nat,m1=q:=⟨m1.toNat,by omega⟩;obtain⟨N,rfl⟩:∃q:Nat,m2=q:=⟨m2.toNat,by omega⟩;obtain⟨L,rfl⟩:∃q:Nat,m3=q:=⟨m3.toNat,by omega⟩;obtain⟨ml,rfl⟩:∃q:Nat,m0=q:=⟨m0.toNat,by omega⟩;have hml':main.length=ml:=by omega
 have HML:=hd hml';rw[hml'] at HMC
 have hmi:∀(k:Nat),k<=5000->∀W:World,(Instr.makeSlice 22 (.int .i64 k) (.int .i64 k)).run prog W=.ok (.slice (some W.heap.size) k k) (W.alloc (.cells (Dg k) 3)):=fun k hk W=>
  run_make_row' 22 3 (.int .i64 0) 8 underlying22 (by kernel_rfl) rfl .i64 .i64 k (by omega) (by omega) W
 have hmb:∀W:World,(Instr.makeSlice 80 (.int .i64 N) (.int .i64 N)).run prog W=.ok (.slice (some W.heap.size) N N) (W.alloc (.cells (Lc N) 4)):=fun W=>
  run_make_row' 80 4 (.bool false) 1 underlying80 (by kernel_rfl) rfl .i64 .i64 N (by omega) (by omega) W
 have hmL:=hmi L (by omega);have hmN:=hmi N (by omega);clear hmi h hm hml hml';show Calls prog 15 #[.agg #[ml,NB,N,L,q],.slice A0 xs.length c0,.slice B0 main.length d0] w _
 rw[HML.o];have HMB:=hd (Blk.new w 27 #[ml,NB,N,L,q]);have HE0:=hd ((Ext.refl [] w).alloc (.cells #[ml,NB,N,L,q] 27));go_enter func15,ntmps15
 go_wp2_with fail
 generalize w.alloc (.cells #[ml,NB,N,L,q] 27)=w0 at *;generalize hwl:w.heap.size=bl at *;refine Jg 8 [3,4,7] [] [3,7] (fun _ w=>Ext [] w0 w) (fun w=>Ext [] w0 w) (Ext []) (Bw [(3,Eg w0.heap.size ml (fun i=>.int .i64 (main.getD i 0))),(4,Afw w0.heap.size),(7,Ih w0.heap.size L)]) (by kernel_rfl) (by kernel_rfl) (by kernel_rfl) ?_ (by kernel_rfl) (fun _ _ _ _ _ h=>h) (fun _ _ h=>h) ?_ (er.drew) ?_ (fun _ _ h=>h.size) ?_
 ·intro i s hs;have hm:=Fe hs;simp only[List.mem_cons,Prod.mk.injEq,List.not_mem_nil,or_false] at hm⊢;rcases hm with⟨h,_⟩|⟨h,_⟩|⟨h,_⟩<;>simp[h]
 ·intro i s hs;have hm:=Fe hs;simp only[List.mem_cons,Prod.mk.injEq,List.not_mem_nil,or_false] at hm;rcases hm with⟨rfl,rfl⟩|⟨rfl,rfl⟩|⟨rfl,rfl⟩
  ·exact fun _ _ _ hR h=>⟨h.1,h.2.1,h.2.2.ext hR List.not_mem_nil⟩
  ·exact fun _ _ _ hR h=>⟨h.1.ext hR List.not_mem_nil,h.2⟩
  ·exact fun _ _ _ hR h=>⟨h.1.ext hR List.not_mem_nil,h.2⟩
 ·intro i s hs N;have hm:=Fe hs;simp only[List.mem_cons,Prod.mk.injEq,List.not_mem_nil,or_false] at hm;rcases hm with⟨rfl,rfl⟩|⟨rfl,rfl⟩|⟨rfl,rfl⟩
  ·exact⟨(N,0),fun b hb=>by cases hb;exact Nat.le_refl _⟩
  ·exact⟨(0:Nat),fun b hb=>by cases hb⟩
  ·exact⟨N,fun b hb=>by cases hb;exact Nat.le_refl _⟩
 simp only[TK]
 repeat(refine dET (fun wr hJ=>by(have qx:=HMB.o.ext hJ (by simp);have qxc:=qx.cell;have qxl:=qx.lt;clear qx);clear hJ;exact CL) ?_;simp only[PT])
 refine Pr (Eg w0.heap.size ml (fun i=>.int .i64 (main.getD i 0))) rfl rfl rfl ?_ ?_
 ·apply Exists.intro
  apply Exists.intro
  refine⟨fun wr=>?_,fun wr nr hg hJ _=>?_⟩
  ·go_simp
   first|exact⟨rfl,rfl⟩|rfl
  ·refine(HMC.o _ (HE0.o.trans hJ)).mono ?_
   rintro e w' ⟨g,c,rfl,hE,h1,h2,h3,h4⟩;rw[HML.o] at h3 h4⊢;exact⟨(g,c),rfl,⟨nt hJ.size h1,h3,h4⟩,hJ.trans hE,hE,fun b hb=>by cases hb;exact⟨h1,h2⟩⟩
 intro (u3:Nat×Nat) hfr3;simp only[PT];dsimp only[Eg];refine Hq (Afw w0.heap.size) rfl rfl rfl ?_ ?_
 ·intro wr nr hg hJ hf;refine⟨wr.heap.size,wr.alloc (.map #[] 0),?_,⟨Hg.made _,hJ.size⟩,hJ.alloc _,er.alloc _,fun b hb=>by cases hb⟩
  clear hJ hf hg;go_simp
  first|rfl|exact⟨rfl,rfl⟩
 intro (b4:Nat) hfr4;simp only[PT];dsimp only[Afw]
 repeat(refine dET (fun wr hJ=>by(have qx:=HMB.o.ext hJ (by simp);have qxc:=qx.cell;have qxl:=qx.lt;clear qx);clear hJ;exact CL) ?_;simp only[PT])
 refine Hq (Ih w0.heap.size L) rfl rfl rfl ?_ ?_
 ·intro wr nr hg hJ hf;refine⟨wr.heap.size,wr.alloc (.cells (Dg L) 3),?_,⟨Blk.new _ _ _,hJ.size⟩,hJ.alloc _,er.alloc _,fun b hb=>by cases hb;simp⟩
  clear hJ hf hg;go_simp
  first|rfl|exact⟨rfl,rfl⟩
 intro (b7:Nat) hfr7;simp only[PT];dsimp only[Ih];have hne:u3.1≠b7:=fun e=>hfr7 b7 rfl (.inr (.inl (by rw[<-e];rfl)))
 clear hfr3 hfr4 hfr7;refine No (fun w1 hJ hk=>?_)
 obtain⟨_,hF⟩:=hk;have f3:w0.heap.size<=u3.1/\ml<=u3.2/\UpW w1 u3.1 3 ml (fun i=>.int .i64 (main.getD i 0)):=hF 3;have f4:Hg w1 b4 (fun _=>none)/\w0.heap.size<=b4:=hF 4;have f7:Blk w1 b7 3 (Dg L)/\w0.heap.size<=b7:=hF 7;have HF3:=hd f3;have HF4:=hd f4;have HF7:=hd f7;have HE1:=hd hJ;have HNE:=hd hne;clear hF f3 f4 f7 hJ hne;go_upto_region 2 with fail
 have hlit:(#[.int .i64 ml,.int .i64 NB,.int .i64 N,.int .i64 L,.int .i64 q,.slice A0 xs.length c0,.int .i64 0,.int .i64 0,.int .i64 0,.int .i64 0,.int .i64 0,.int .i64 0,.int .i64 0,.int .i64 0,.int .i64 0,.int .i64 0,.int .i64 0,.int .i64 0,.int .i64 0,.int .i64 0,.int .i64 0,.int .i64 0,.slice none 0 0,.slice none 0 0,.slice none 0 0,.slice none 0 0,.slice none 0 0,.slice none 0 0,.slice none 0 0,.slice none 0 0,.slice none 0 0,.slice (some b7) L L,.slice (some u3.1) ml u3.2,.slice none 0 0,.slice none 0 0,.map (some b4),.slice none 0 0,.int .i64 0,.int .i64 0,.pointer none,.bool false]:Array Value)=rmA (rmZ ml NB N L q (.slice A0 xs.length c0) (.slice (some b7) L L) (.slice (some u3.1) ml u3.2) (.map (some b4)) 0 (fun _=>0) (.slice none 0 0) (.slice none 0 0) (.slice none 0 0) false):=by kernel_rfl
 obtain⟨c,hc⟩:∃c,c=w1.heap.size:=⟨_,rfl⟩;have HB2:=hd (Blk.new w1 52 #[.int .i64 ml,.int .i64 NB,.int .i64 N,.int .i64 L,.int .i64 q,.slice A0 xs.length c0,.int .i64 0,.int .i64 0,.int .i64 0,.int .i64 0,.int .i64 0,.int .i64 0,.int .i64 0,.int .i64 0,.int .i64 0,.int .i64 0,.int .i64 0,.int .i64 0,.int .i64 0,.int .i64 0,.int .i64 0,.int .i64 0,.slice none 0 0,.slice none 0 0,.slice none 0 0,.slice none 0 0,.slice none 0 0,.slice none 0 0,.slice none 0 0,.slice none 0 0,.slice none 0 0,.slice (some b7) L L,.slice (some u3.1) ml u3.2,.slice none 0 0,.slice none 0 0,.map (some b4),.slice none 0 0,.int .i64 0,.int .i64 0,.pointer none,.bool false]);have HE2:=hd ((Ext.refl [] w1).alloc (.cells #[.int .i64 ml,.int .i64 NB,.int .i64 N,.int .i64 L,.int .i64 q,.slice A0 xs.length c0,.int .i64 0,.int .i64 0,.int .i64 0,.int .i64 0,.int .i64 0,.int .i64 0,.int .i64 0,.int .i64 0,.int .i64 0,.int .i64 0,.int .i64 0,.int .i64 0,.int .i64 0,.int .i64 0,.int .i64 0,.int .i64 0,.slice none 0 0,.slice none 0 0,.slice none 0 0,.slice none 0 0,.slice none 0 0,.slice none 0 0,.slice none 0 0,.slice none 0 0,.slice none 0 0,.slice (some b7) L L,.slice (some u3.1) ml u3.2,.slice none 0 0,.slice none 0 0,.map (some b4),.slice none 0 0,.int .i64 0,.int .i64 0,.pointer none,.bool false] 52));have HZ2:Hd ((w1.alloc (.cells #[.int .i64 ml,.int .i64 NB,.int .i64 N,.int .i64 L,.int .i64 q,.slice A0 xs.length c0,.int .i64 0,.int .i64 0,.int .i64 0,.int .i64 0,.int .i64 0,.int .i64 0,.int .i64 0,.int .i64 0,.int .i64 0,.int .i64 0,.int .i64 0,.int .i64 0,.int .i64 0,.int .i64 0,.int .i64 0,.int .i64 0,.slice none 0 0,.slice none 0 0,.slice none 0 0,.slice none 0 0,.slice none 0 0,.slice none 0 0,.slice none 0 0,.slice none 0 0,.slice none 0 0,.slice (some b7) L L,.slice (some u3.1) ml u3.2,.slice none 0 0,.slice none 0 0,.map (some b4),.slice none 0 0,.int .i64 0,.int .i64 0,.pointer none,.bool false] 52)).heap.size=c+1):=hd (by simp[hc]);rw[<-hc] at HB2⊢;have HC:=hd hc;clear hc;generalize w1.alloc (.cells #[.int .i64 ml,.int .i64 NB,.int .i64 N,.int .i64 L,.int .i64 q,.slice A0 xs.length c0,.int .i64 0,.int .i64 0,.int .i64 0,.int .i64 0,.int .i64 0,.int .i64 0,.int .i64 0,.int .i64 0,.int .i64 0,.int .i64 0,.int .i64 0,.int .i64 0,.int .i64 0,.int .i64 0,.int .i64 0,.int .i64 0,.slice none 0 0,.slice none 0 0,.slice none 0 0,.slice none 0 0,.slice none 0 0,.slice none 0 0,.slice none 0 0,.slice none 0 0,.slice none 0 0,.slice (some b7) L L,.slice (some u3.1) ml u3.2,.slice none 0 0,.slice none 0 0,.map (some b4),.slice none 0 0,.int .i64 0,.int .i64 0,.pointer none,.bool false] 52)=w2 at *;rw[hlit] at HB2;clear hlit;have HE12:=HE2;have HM2:=hd (HMB.o.ext (HE1.o.trans HE2.o) (by simp));have hblc:bl<c:=by have h1:=HMB.o.lt;have h2:=HE1.o.size;have h3:=HC.o;omega
 have hbn:bl∉[c]:=by simp;omega
 obtain⟨u1,hu1⟩:∃u:Nat->(Nat->Nat)->Array Value,u=fun k vb=>rmA (rmZ ml NB N L q (.slice A0 xs.length c0) (.slice (some b7) L L) (.slice (some u3.1) ml u3.2) (.map (some b4)) k vb (.slice none 0 0) (.slice none 0 0) (.slice none 0 0) false):=⟨_,rfl⟩
 have HU1:=hd hu1;have HBN:=hd hbn;have HBLC:=hd hblc;clear hu1 hbn hblc;go_wp2_with fail
 go_loopw [19] (fun i wr=>∃(k:Nat) (vb:Nat->Nat),i=.int .i64 k/\k<=8/\Hd (Ext [c] w2 wr/\Blk wr c 52 (u1 k vb)/\∀d,d<k->Blk wr (vb d) 3 (Dg L)/\c+1<=vb d)) (fun i _=>(8-intOf i).toNat)
 case atStart=>exact⟨0,fun _=>0,rfl,by omega,hd ⟨er,by rw[HU1.o];exact HB2.o,fun d hd=>by omega⟩⟩
 case round=>
  obtain⟨k,vb,rfl,hk,hI⟩:=hrel;rename World=>w3
  by_cases hlt:k<8
  ·have HM3:=hd (HM2.o.ext hI.o.1 HBN.o);go_wp2_with fail
   refine Jg 7 [4] [] [] (fun _ w=>Ext [] w3 w) (fun w=>Ext [] w3 w) (Ext []) (Bw [(4,Ih w3.heap.size L)]) (by kernel_rfl) (by kernel_rfl) (by kernel_rfl) ?_ (by kernel_rfl) (fun _ _ _ _ _ h=>h) (fun _ _ h=>h) ?_ (er.drew) ?_ (fun _ _ h=>h.size) ?_
   ·intro i s hs;have hm:=Fe hs;simp only[List.mem_cons,Prod.mk.injEq,List.not_mem_nil,or_false] at hm⊢;rcases hm with⟨h,_⟩
    simp[h]
   ·intro i s hs;have hm:=Fe hs;simp only[List.mem_cons,Prod.mk.injEq,List.not_mem_nil,or_false] at hm;rcases hm with⟨rfl,rfl⟩
    exact fun _ _ _ hR h=>⟨h.1.ext hR List.not_mem_nil,h.2⟩
   ·intro i s hs N;have hm:=Fe hs;simp only[List.mem_cons,Prod.mk.injEq,List.not_mem_nil,or_false] at hm;rcases hm with⟨rfl,rfl⟩
    exact⟨N,fun b hb=>by cases hb⟩
   simp only[TK]
   repeat(refine dET (fun wr hJ=>by(have qx:=HM3.o.ext hJ (by simp);have qxc:=qx.cell;have qxl:=qx.lt;clear qx);clear hJ;exact CL) ?_;simp only[PT])
   refine Hq (Ih w3.heap.size L) rfl rfl rfl ?_ ?_
   ·intro wr nr hg hJ hf;refine⟨wr.heap.size,wr.alloc (.cells (Dg L) 3),?_,⟨Blk.new _ _ _,hJ.size⟩,hJ.alloc _,er.alloc _,fun b hb=>by cases hb⟩
    clear hJ hf hg;go_simp
    first|rfl|exact⟨rfl,rfl⟩
   intro (g4:Nat) hfr4;simp only[PT];dsimp only[Ih];clear hfr4
   repeat(refine dET (fun wr hJ=>by clear hJ;exact CL) ?_;simp only[PT])
   refine No (fun wy hJ hk'=>?_)
   obtain⟨_,hF⟩:=hk';have f4:Blk wy g4 3 (Dg L)/\w3.heap.size<=g4:=hF 4;have HG4:=hd f4;have HJ:=hd hJ;have HBy:=hd (hI.o.2.1.ext hJ (by simp))
   have qv:wy.cell? ⟨c,22+k,none⟩=some (.slice none 0 0):=by
    rw[HBy.o.cell,HU1.o,Gw _ (by omega)];unfold rmZ;rw[ijn (by omega),ijn (by omega),ijn (by omega),ijp (by omega),ijn (by omega)]
   have qf:=HBy.o.frozen;have ql:=HBy.o.lt;have hki:(k:Int)<8:=by omega
   clear hF f4 hJ;go_wp2_with fail
   go_round
   case rel=>
    refine⟨k+1,fun j=>if j=k then g4 else vb j,by go_num,by omega,hd ⟨(hI.o.1.trans HJ.o.nil).setCell (.inl (by simp)) _,?_,fun d hd=>?_⟩⟩
    ·exact HBy.o.set_' (22+k) _ _ (by rw[HU1.o];dsimp only;rw[Os];exact Pd fun i _=>Ahs g4 hlt i)
    ·have hcw:=HBy.o.lt;have hEc:Ext [c] wy (wy.setCell ⟨c,22+k,none⟩ (.slice (some g4) L L)):=er.setCell (.inl (by simp)) _;have hw23:=hI.o.1.size;have hz:=HZ2.o;by_cases hdk:d=k
     ·simp only[ijp hdk];exact⟨HG4.o.1.ext hEc (by have:=HG4.o.2;simp;omega),by have:=HG4.o.2;omega⟩
     ·simp only[ijn hdk];obtain⟨a1,a2⟩:=hI.o.2.2 d (by omega);exact⟨(a1.ext HJ.o (by simp)).ext hEc (by simp;omega),a2⟩
   case measure=>simp[intOf];omega
  ·have hk8:k=8:=by omega
   subst hk8;have HM3:=hd (HM2.o.ext hI.o.1 HBN.o);have HI1:=hI;have qm:=HM3.o.cell;have qml:=HM3.o.lt;obtain⟨u2,hu2⟩:∃u:Value->Array Value,u=fun wv=>rmA (rmZ ml NB N L q (.slice A0 xs.length c0) (.slice (some b7) L L) (.slice (some u3.1) ml u3.2) (.map (some b4)) 8 vb wv (.slice none 0 0) (.slice none 0 0) false):=⟨_,rfl⟩
   have HU2:=hd hu2;clear hu2;have HB3:Hd (Blk w3 c 52 (u2 (.slice none 0 0))):=hd (by have:=hI.o.2.1;rw[HU1.o] at this;rw[HU2.o];exact this);go_wp2_with fail
   clear qm qml;go_loopw [33] (fun i wr=>∃(k:Nat) (v:Value),i=.int .i64 k/\k<=L/\Hd (Ext [c] w3 wr/\Blk wr c 52 (u2 v)/\∃wb,Ti w3.heap.size L k v wr wb)) (fun i _=>(L-intOf i).toNat)
   case atStart=>exact⟨0,_,rfl,by omega,hd ⟨er,HB3.o,_,Ti.nil _ _ _⟩⟩
   case round=>
    obtain⟨k,v,rfl,hk,hI2⟩:=hrel;rename World=>wq
    by_cases hlt:k<L
    ·obtain⟨hE2,hBc,wb,hRI⟩:=hI2.o;have HRI:=hd hRI;have hw2:=hE2.size;have hcq:=hBc.lt
     have HHC:Hd (∀g,v.ownBlock=some g->g<wq.heap.size/\g≠c):=hd (fun g hg=>by
      obtain⟨C,hC⟩:=Ea hRI.row hg;exact⟨hC.lt,hC.apart hBc (by decide)⟩)
     have hmt:bl∉v.ownBlock.toList:=fun h=>by
      have h1:=Bf hRI.row _ (by simpa using h);have h2:=HM3.o.lt;omega
     have HMT:=hd hmt;have HM4:=hd (HM3.o.ext hE2 HBN.o);have HE2:=hd hE2;have HBc:=hd hBc;clear hE2 hBc hRI hmt;go_wp2_with fail
     refine Fx 12 (JW1 u2 w3.heap.size c v k (rows wb L k) wq) (RW1 v) (Bw [(7,Ih wq.heap.size L),(8,Je wq.heap.size (XI wq.heap.size L)),(9,Hp w3.heap.size wq.heap.size 22 k v (rows wb L k) (XI wq.heap.size L))]) (by kernel_rfl) (by kernel_rfl) ?_ ?_ ?_ ?_
     ·intro i r w hi _ hJ
      have hne:i≠9:=by
       intro e;subst e;rcases hi with hi|⟨oi,hoi,hg⟩<;>first|(cases hi;done)|(cases hoi;exact hg rfl)
      exact hJ.idle er i hne
     ·exact fun i s j hs hj=>Afv HHC.o hs hj
     ·exact⟨er.drew,fun _=>An HRI.o.row ((Ext.refl [] _).drew) (by simp),HBc.o⟩
     simp only[TK]
     repeat(refine dEU (fun wr nr hg hJ=>by(first|(have hx:=HM4.o.ext hJ.ext HMT.o;have q2:=hx.cell;have ql:=hx.lt;clear hx;have q9:wr.cell? ⟨c,30,none⟩=some v:=(by rw[hJ.mach.cell,HU2.o];exact Gw _ (by omega));have hbl:=hJ.mach.lt)|skip);clear hJ;exact CL) ?_;simp only[PT])
     refine Gv (Ih wq.heap.size L) rfl rfl (fun w ob r hg hJ=>hJ.idle (er.alloc _) _ (by decide)) (fun w ob=>RW1.nil (er.alloc _)) ?_ ?_
     ·intro wr nr hg hJ hf;have hqs:=hJ.ext.size;refine⟨wr.heap.size,.cells (Dg L) 3,?_,Blk.new _ _ _,hqs⟩
      clear hqs hJ hf hg;go_simp
      first|rfl|exact⟨rfl,rfl⟩
     intro (b8:Nat);simp only[PT];dsimp only[Ih];refine Gv (Je wq.heap.size (XI wq.heap.size L)) rfl rfl (fun w ob r hg hJ=>hJ.idle (er.alloc _) _ (by decide)) (fun w ob=>RW1.nil (er.alloc _)) ?_ ?_
     ·intro wr nr hg hJ hf;have f8:Blk wr b8 3 (Dg L)/\wq.heap.size<=b8:=Cm hf 7 (by kernel_rfl);have hqs:=hJ.ext.size;refine⟨wr.heap.size,.cells #[.slice (some b8) L L] 22,?_,hqs,_,(Blk.new _ _ _).cell 0,rfl,b8,rfl,f8.1.alloc _,f8.2⟩
      clear hqs hJ hf hg f8;go_simp
      first|rfl|exact⟨rfl,rfl⟩
     intro (b9:Nat);simp only[PT];dsimp only[Je];obtain⟨i9,hi9,hz9a,hz9b,hz9c⟩:=info_parts (show((prog).info? 22).map (fun i=>(i.zero,i.size,i.bytes))=some (some (.slice none 0 0),1,24) by kernel_rfl);refine Lw 8 b9 46 w3.heap.size wq.heap.size 22 i9 _ 24 v k 1 (rows wb L k) _ _ (XI wq.heap.size L) (Je wq.heap.size (XI wq.heap.size L)).V rfl rfl rfl (by kernel_rfl) hi9 hz9a hz9b hz9c rfl rfl rfl ?_ ?_ ?_ (by kernel_rfl) rfl (fun _ h=>h.2) ?_ ?_ ?_ ?_ ?_ ?_
     ·exact fun w r hg hJ=>hJ.row hg.mine
     ·exact fun w w' r hg hJ hE=>hJ.app HHC.o hE
     ·exact fun w w' hE=>hE
     ·exact fun y w w' hy hE=>hy.ext hE (fun x hx=>(HHC.o x (by simpa using hx)).1)
     ·unfold maxLen;omega
     ·omega
     ·exact fun w r hJ=>nt HE2.o.size hJ.ext.size
     ·exact fun w r hJ=>hJ.ext.size
     intro u10;simp only[PT]
     repeat(refine dEU (fun wr nr hg hJ=>by clear hJ;exact CL) ?_;simp only[PT])
     refine Nj (fun wy r hr hJ hF=>?_)
     have H9:(Hp w3.heap.size wq.heap.size 22 k v (rows wb L k) (XI wq.heap.size L)).V u10 wy:=hF 9;clear hF;have HY:=hd (And.intro hJ.ext (And.intro hJ.mach H9));have q9:wy.cell? ⟨c,30,none⟩=some v:=by rw[hJ.mach.cell,HU2.o];exact Gw _ (by omega)
     have qf:=hJ.mach.frozen;have hbl:=hJ.mach.lt;clear hJ H9 hr;go_wp2_with fail
     go_round
     case rel=>
      obtain⟨hx,hB,y9,X9,R9,o9⟩:=HY.o;have hEc:Ext [c] wy (wy.setCell ⟨c,30,none⟩ (.slice (some u10.1) (k+1) u10.2)):=er.setCell (.inl (by simp)) _
      have hx9:u10.1≠c:=by
       rcases o9 with h3|h3
       ·exact(HHC.o _ h3).2
       ·omega
      have hcs:∀x∈[c],x<wq.heap.size:=fun x hx=>by rw[ms hx];exact hcq
      refine⟨k+1,_,by go_num,by omega,hd ⟨?_,hB.set_' 30 _ _ (by rw[HU2.o];dsimp only;rw[Os];exact Pd fun i _=>Aht _ i),HRI.o.more HE2.o.size ((hx.mono (fun x hx=>.inl (List.mem_cons_of_mem c hx))).setCell (.inl (by simp)) _) ?_ (X9.ext hEc hcs) (An R9 hEc (fun g hg hm=>by cases hg;exact hx9 (ms hm)))⟩⟩
      ·exact(HE2.o.step hx (fun x hx=>.inr (Bf HRI.o.row _ (by simpa using hx)))).setCell (.inl (by simp)) _
      ·intro x hx t C hC;rcases List.mem_cons.1 hx with h|h
       ·subst h;rw[hC.type HBc.o];decide
       ·obtain⟨D,hD⟩:=Ea HRI.o.row (g:=x) (by simpa using h);rw[hC.type hD];decide
     case measure=>simp[intOf];omega
    ·have hkL:k=L:=by omega
     subst hkL;obtain⟨hE2,hBc,wb,hRI⟩:=hI2.o;have HRI:=hd hRI;have HE2:=hd hE2;have HM4:=hd (HM3.o.ext hE2 HBN.o);have qm:=HM4.o.cell;have qml:=HM4.o.lt;have HW3:Hd (∀g,v.ownBlock=some g->g<wq.heap.size):=hd (fun g hg=>by obtain⟨C,hC⟩:=Ea hRI.row hg;exact hC.lt);obtain⟨u4,hu4⟩:∃u:Value->Value->Array Value,u=fun bv sv=>rmA (rmZ ml NB N k q (.slice A0 xs.length c0) (.slice (some b7) k k) (.slice (some u3.1) ml u3.2) (.map (some b4)) 8 vb v bv sv false):=⟨_,rfl⟩
     have HU4:=hd hu4;have HB4:Hd (Blk wq c 52 (u4 (.slice none 0 0) (.slice none 0 0))):=hd (by rw[HU2.o] at hBc;rw[HU4.o];exact hBc);clear hu4 hE2 hBc hRI;go_wp2_with fail
     clear qm qml;rename World=>w4
     go_loopw [50] (fun i wr=>∃(k:Nat) (bv sv:Value),i=.int .i64 k/\k<=NB/\Hd (Ext [c] w4 wr/\Blk wr c 52 (u4 bv sv)/\∃bk sb,Jo w4.heap.size N k bv sv wr bk sb)) (fun i _=>(NB-intOf i).toNat)
     case atStart=>exact⟨0,_,_,rfl,by omega,hd ⟨er,HB4.o,_,_,Jo.nil _ _ _⟩⟩
     case round=>
      obtain⟨j,bv,sv,rfl,hj,hI⟩:=hrel;rename World=>wq
      by_cases hlt:j<NB
      ·obtain⟨hE5,hBc,bk,sb,hBI⟩:=hI.o;have HBI:=hd hBI;have hw4:=hE5.size;have hcq:=hBc.lt
       have hA:Ap c bv sv wq.heap.size:=by
        refine⟨fun g hg=>?_,fun g hg=>?_,fun g g' hg hg'=>?_,hcq⟩
        ·obtain⟨C,hC⟩:=Ea hBI.rowB hg;exact⟨hC.lt,hC.apart hBc (by decide)⟩
        ·obtain⟨C,hC⟩:=Ea hBI.rowS hg;exact⟨hC.lt,hC.apart hBc (by decide)⟩
        ·obtain⟨C,hC⟩:=Ea hBI.rowB hg;obtain⟨D,hD⟩:=Ea hBI.rowS hg';exact hC.apart hD (by decide)
       have HA:=hd hA
       have hmt:bl∉c :: two bv sv:=fun h=>by
        rcases List.mem_cons.1 h with h|h
        ·have:=HBLC.o;omega
        ·unfold two at h;rcases List.mem_append.1 h with h|h
         ·have:=Bf hBI.rowB _ (by simpa using h);have:=HM4.o.lt;omega
         ·have:=Bf hBI.rowS _ (by simpa using h);have:=HM4.o.lt;omega
       have HMT:=hd hmt;have HM5:=hd (HM4.o.ext hE5 HBN.o);have HE5:=hd hE5;have HBc:=hd hBc;clear hE5 hBc hBI hA hmt;go_wp2_with fail
       refine Fx 23 (Th u4 w4.heap.size N c bv sv j (rows bk N j) (rows sb N j) wq) (RB c bv sv) (Bw [(8,Ih wq.heap.size N),(9,Je wq.heap.size (XI wq.heap.size N)),(10,Hp w4.heap.size wq.heap.size 22 j bv (rows bk N j) (XI wq.heap.size N)),(17,Aag wq.heap.size N),(18,Je wq.heap.size (XB wq.heap.size N)),(19,Hp w4.heap.size wq.heap.size 80 j sv (rows sb N j) (XB wq.heap.size N)),(22,⟨Unit,(),fun _=>undef,fun _ _=>True⟩)]) (by kernel_rfl) (by kernel_rfl) ?_ ?_ ?_ ?_
       ·intro i r w hi _ hJ
        have hne:i≠10/\i≠19/\i≠22:=by
         refine⟨?_,?_,?_⟩<;>intro e<;>subst e<;>rcases hi with hi|⟨oi,hoi,hg⟩<;>first|(cases hi;done)|(cases hoi;exact hg rfl)
        exact hJ.idle HA.o er i hne
       ·exact fun i s j hs hj=>Rl HA.o hs hj
       ·exact⟨er.drew,fun _=>An HBI.o.rowB ((Ext.refl [] _).drew) (by simp),fun _=>An HBI.o.rowS ((Ext.refl [] _).drew) (by simp),bv,HBc.o,fun _=>rfl,fun h=>by cases h⟩
       simp only[TK]
       repeat(refine dEU (fun wr nr hg hJ=>by clear hJ;exact CL) ?_;simp only[PT])
       refine Iv rfl rfl ?_
       apply Exists.intro
       refine⟨fun wr nr hg hJ=>?_,?_⟩
       ·obtain⟨v8,hB,hv,_⟩:=hJ.chip
        have q8:wr.cell? ⟨c,33,none⟩=some bv:=by
         rw[<-hv (hg.later 22 (by kernel_rfl)),hB.cell,HU4.o];exact Gw _ (by omega)
        have hbl:=hB.lt;clear hg hB hv hJ;(go_simp;try go_bits)
        first|rfl|exact⟨rfl,rfl⟩
       simp only[PT]
       repeat(refine dEU (fun wr nr hg hJ=>by(have hx:=HM5.o.ext hJ.ext HMT.o;have q2:=hx.cell;have ql:=hx.lt;clear hx);clear hJ;exact CL) ?_;simp only[PT])
       refine Gv (Ih wq.heap.size N) rfl rfl (fun w ob r hg hJ=>hJ.idle HA.o (er.alloc _) _ (by decide)) (fun w ob=>RB.nil (er.alloc _)) ?_ ?_
       ·intro wr nr hg hJ hf;have hqs:=hJ.ext.size;refine⟨wr.heap.size,.cells (Dg N) 3,?_,Blk.new _ _ _,hqs⟩
        clear hqs hJ hf hg;go_simp
        first|rfl|exact⟨rfl,rfl⟩
       intro (b8:Nat);simp only[PT];dsimp only[Ih];refine Gv (Je wq.heap.size (XI wq.heap.size N)) rfl rfl (fun w ob r hg hJ=>hJ.idle HA.o (er.alloc _) _ (by decide)) (fun w ob=>RB.nil (er.alloc _)) ?_ ?_
       ·intro wr nr hg hJ hf;have f8:Blk wr b8 3 (Dg N)/\wq.heap.size<=b8:=Cm hf 8 (by kernel_rfl);have hqs:=hJ.ext.size;refine⟨wr.heap.size,.cells #[.slice (some b8) N N] 22,?_,hqs,_,(Blk.new _ _ _).cell 0,rfl,b8,rfl,f8.1.alloc _,f8.2⟩
        clear hqs hJ hf hg f8;go_simp
        first|rfl|exact⟨rfl,rfl⟩
       intro (b9:Nat);simp only[PT];dsimp only[Je];obtain⟨i9,hi9,hz9a,hz9b,hz9c⟩:=info_parts (show((prog).info? 22).map (fun i=>(i.zero,i.size,i.bytes))=some (some (.slice none 0 0),1,24) by kernel_rfl);refine Lw 9 b9 46 w4.heap.size wq.heap.size 22 i9 _ 24 bv j 1 (rows bk N j) _ _ (XI wq.heap.size N) (Je wq.heap.size (XI wq.heap.size N)).V rfl rfl rfl (by kernel_rfl) hi9 hz9a hz9b hz9c rfl rfl rfl ?_ ?_ ?_ (by kernel_rfl) rfl (fun _ h=>h.2) ?_ ?_ ?_ ?_ ?_ ?_
       ·exact fun w r hg hJ=>hJ.rowb hg.mine
       ·exact fun w w' r hg hJ hE=>hJ.app10 HA.o hE (hg.later 22 (by kernel_rfl))
       ·exact fun w w' hE=>hE
       ·exact fun y w w' hy hE=>hy.ext hE (fun x hx=>(HA.o.b x (by simpa using hx)).1)
       ·unfold maxLen;omega
       ·omega
       ·exact fun w r hJ=>nt HE5.o.size hJ.ext.size
       ·exact fun w r hJ=>hJ.ext.size
       intro u10;simp only[PT]
       repeat(refine dEU (fun wr nr hg hJ=>by(obtain⟨v8,hB,_⟩:=hJ.chip;have q9:wr.cell? ⟨c,34,none⟩=some sv:=(by rw[hB.cell,HU4.o];exact Gw _ (by omega));have hbl:=hB.lt;clear hB);clear hJ;exact CL) ?_;simp only[PT])
       repeat(refine dEU (fun wr nr hg hJ=>by(have hx:=HM5.o.ext hJ.ext HMT.o;have q2:=hx.cell;have ql:=hx.lt;clear hx);clear hJ;exact CL) ?_;simp only[PT])
       refine Gv (Aag wq.heap.size N) rfl rfl (fun w ob r hg hJ=>hJ.idle HA.o (er.alloc _) _ (by decide)) (fun w ob=>RB.nil (er.alloc _)) ?_ ?_
       ·intro wr nr hg hJ hf;have hqs:=hJ.ext.size;refine⟨wr.heap.size,.cells (Lc N) 4,?_,Blk.new _ _ _,hqs⟩
        clear hqs hJ hf hg;go_simp
        first|rfl|exact⟨rfl,rfl⟩
       intro (b17:Nat);simp only[PT];dsimp only[Aag];refine Gv (Je wq.heap.size (XB wq.heap.size N)) rfl rfl (fun w ob r hg hJ=>hJ.idle HA.o (er.alloc _) _ (by decide)) (fun w ob=>RB.nil (er.alloc _)) ?_ ?_
       ·intro wr nr hg hJ hf;have f17:Blk wr b17 4 (Lc N)/\wq.heap.size<=b17:=Cm hf 17 (by kernel_rfl);have hqs:=hJ.ext.size;refine⟨wr.heap.size,.cells #[.slice (some b17) N N] 80,?_,hqs,_,(Blk.new _ _ _).cell 0,rfl,b17,rfl,f17.1.alloc _,f17.2⟩
        clear hqs hJ hf hg f17;go_simp
        first|rfl|exact⟨rfl,rfl⟩
       intro (b18:Nat);simp only[PT];dsimp only[Je];obtain⟨i18,hi18,hz18a,hz18b,hz18c⟩:=info_parts (show((prog).info? 80).map (fun i=>(i.zero,i.size,i.bytes))=some (some (.slice none 0 0),1,24) by kernel_rfl);refine Lw 18 b18 47 w4.heap.size wq.heap.size 80 i18 _ 24 sv j 1 (rows sb N j) _ _ (XB wq.heap.size N) (Je wq.heap.size (XB wq.heap.size N)).V rfl rfl rfl (by kernel_rfl) hi18 hz18a hz18b hz18c rfl rfl rfl ?_ ?_ ?_ (by kernel_rfl) rfl (fun _ h=>h.2) ?_ ?_ ?_ ?_ ?_ ?_
       ·exact fun w r hg hJ=>hJ.rows hg.mine
       ·exact fun w w' r hg hJ hE=>hJ.app19 HA.o hE (hg.later 22 (by kernel_rfl))
       ·exact fun w w' hE=>hE
       ·exact fun y w w' hy hE=>hy.ext hE (fun x hx=>(HA.o.s x (by simpa using hx)).1)
       ·unfold maxLen;omega
       ·omega
       ·exact fun w r hJ=>nt HE5.o.size hJ.ext.size
       ·exact fun w r hJ=>hJ.ext.size
       intro u19;simp only[PT]
       repeat(refine dEU (fun wr nr hg hJ=>by clear hJ;exact CL) ?_;simp only[PT])
       refine Kv rfl rfl ?_ ?_
       ·intro wr nr hg hJ hf;have f10:(Hp w4.heap.size wq.heap.size 22 j bv (rows bk N j) (XI wq.heap.size N)).V u10 wr:=Cm hf 10 (by kernel_rfl);obtain⟨v8,hB,hv,_⟩:=hJ.chip
        have hx10:u10.1≠c:=by
         obtain⟨y,_,_,h3⟩:=f10;rcases h3 with h3|h3
         ·exact(HA.o.b _ h3).2
         ·omega
        have hEc:Ext [c] wr (wr.setCell ⟨c,33,none⟩ (.slice (some u10.1) (j+1) u10.2)):=er.setCell (.inl (by simp)) _;refine⟨wr.setCell ⟨c,33,none⟩ (.slice (some u10.1) (j+1) u10.2),?_,⟨hJ.ext.setCell (.inl (by simp)) _,fun hr=>An (hJ.rowb (by rwa [Dj (by decide)] at hr)) hEc (fun g hg hm=>(HA.o.b g hg).2 (ms hm)),fun hr=>An (hJ.rows (by rwa [Dj (by decide)] at hr)) hEc (fun g hg hm=>(HA.o.s g hg).2 (ms hm)),_,hB.set_' 33 _ _ (by rw[HU4.o];dsimp only;rw[Os];exact Pd fun i _=>Ahu _ i),?_,?_⟩,hEc⟩
        ·have q8:wr.cell? ⟨c,33,none⟩=some v8:=by rw[hB.cell,HU4.o];exact Gw _ (by omega)
         have qf:=hB.frozen;have hbl:=hB.lt;clear hg hf hB hv hEc f10 hJ;go_simp
        ·intro h;simp[off] at h
        ·exact fun _=>⟨u10,rfl,Hp.ext f10 hEc (fun y hy=>hy.ext hEc (fun x hx=>by rw[ms hx];exact HA.o.c)) (fun hm=>hx10 (ms hm))⟩
       simp only[PT];refine Nj (fun wy r hr hJ hF=>?_)
       have H19:(Hp w4.heap.size wq.heap.size 80 j sv (rows sb N j) (XB wq.heap.size N)).V u19 wy:=hF 19;clear hF;obtain⟨v8,hB,_,h22⟩:=hJ.chip;have hr8:=h22 (by rw[hr 22 (by decide)];rfl);have HY:=hd (And.intro hJ.ext (And.intro hB (And.intro hr8 H19)));have q9:wy.cell? ⟨c,34,none⟩=some sv:=by rw[hB.cell,HU4.o];exact Gw _ (by omega)
       have qf:=hB.frozen;have hbl:=hB.lt;clear hJ hB h22 hr8 H19 hr;go_wp2_with fail
       go_round
       case rel=>
        obtain⟨hx,hB,⟨x8,e8,y8,X8,R8,o8⟩,y9,X9,R9,o9⟩:=HY.o;have hEc:Ext [c] wy (wy.setCell ⟨c,34,none⟩ (.slice (some u19.1) (j+1) u19.2)):=er.setCell (.inl (by simp)) _
        have hx8:x8.1≠c:=by
         rcases o8 with h3|h3
         ·exact(HA.o.b _ h3).2
         ·omega
        have hx9:u19.1≠c:=by
         rcases o9 with h3|h3
         ·exact(HA.o.s _ h3).2
         ·omega
        have hcs:∀x∈[c],x<wq.heap.size:=fun x hx=>by rw[ms hx];exact HA.o.c
        refine⟨j+1,v8,_,by go_num,by omega,hd ⟨?_,hB.set_' 34 _ _ (by rw[HU4.o];dsimp only;rw[Os];exact Pd fun i _=>Ahv _ i),HBI.o.more rfl HE5.o.size (hx.setCell (.inl (by simp)) _) ?_ e8 rfl (X8.ext hEc hcs) (X9.ext hEc hcs) ?_ ?_⟩⟩
        ·refine(HE5.o.step hx fun x hx=>?_).setCell (.inl (by simp)) _
         rcases List.mem_cons.1 hx with h|h
         ·exact .inl (by simp[h])
         ·unfold two at h;rcases List.mem_append.1 h with h|h
          ·exact .inr (Bf HBI.o.rowB _ (by simpa using h))
          ·exact .inr (Bf HBI.o.rowS _ (by simpa using h))
        ·intro x hx t C hC;rcases List.mem_cons.1 hx with h|h
         ·subst h;rw[hC.type HBc.o];decide
         ·unfold two at h;rcases List.mem_append.1 h with h|h
          ·obtain⟨D,hD⟩:=Ea HBI.o.rowB (g:=x) (by simpa using h);rw[hC.type hD];decide
          ·obtain⟨D,hD⟩:=Ea HBI.o.rowS (g:=x) (by simpa using h);rw[hC.type hD];decide
        ·rw[e8];exact An R8 hEc (fun g hg hm=>by cases hg;exact hx8 (ms hm))
        ·exact An R9 hEc (fun g hg hm=>by cases hg;exact hx9 (ms hm))
       case measure=>simp[intOf];omega
      ·have hkn:j=NB:=by omega
       subst hkn;obtain⟨hE5,hBc,bk,sb,hBI⟩:=hI.o;obtain⟨ob,hob⟩:∃b:Bool,b=(xs.length==0):=⟨_,rfl⟩
       have hob2:((xs.length:Int)==0)=ob:=by
        rw[hob,Bool.eq_iff_iff];simp
       have HOB:=hd hob;have HBI:=hd hBI;have q40:wq.cell? ⟨c,40,none⟩=some (.bool false):=by rw[hBc.cell,HU4.o];exact Gw _ (by omega)
       have qf:=hBc.frozen;have hbl:=hBc.lt;have hEc:Ext [c] wq (wq.setCell ⟨c,40,none⟩ (.bool ob)):=er.setCell (.inl (by simp)) _;have HB3':=hd (hBc.set_' 40 (.bool ob) (rmA (rmZ ml j N k q (.slice A0 xs.length c0) (.slice (some b7) k k) (.slice (some u3.1) ml u3.2) (.map (some b4)) 8 vb v bv sv ob)) (by rw[HU4.o];dsimp only;rw[Os];exact Pd fun i hi=>Ahw _ hi));have HEC:=hd hEc;have HBC:=hd hBc;have HEF:=hd (hE5.trans hEc);clear hE5 hBc hBI hob hEc
       cases ob<;>(
        go_wp2_with fail
        go_ret
        have hE:=HEF.o;have hBI:=HBI.o;have hcK:c<w4.heap.size:=HB4.o.lt;have hc2:c<w3.heap.size:=HB3.o.lt;have hn:∀x,x≠c->x∉[c]:=fun x h hm=>h (ms hm)
        have hml'':=HML.o;have hz2:=HZ2.o;have e2:Ext [c] w2 w3:=HI1.o.1;have e3:Ext [c] w3 w4:=HE2.o;have e12:=HE12.o;have s12:=e12.size;have s23:=e2.size;have s34:=e3.size;have s01:=HE1.o.size;have s00:=HE0.o.size;have f3:=HF3.o;have f4:=HF4.o;have f7:=HF7.o;have hcw:=HC.o;have l3:=f3.2.2.lt;have l4:=f4.1.lt;have l7:=f7.1.lt;have e3f:Ext [c] w3 _:=e3.trans hE;have e2f:Ext [c] w2 _:=e2.trans e3f;have e1f:Ext [c] w1 _:=e12.nil.trans e2f;have e0f:Ext [] w _:=(HE0.o.trans HE1.o).step e1f (fun x hx=>.inr (by rw[ms hx];omega));have hcell:∀g t C,Blk wq g t C->t=3\/t=4\/t=22\/t=80->g∉[c]:=fun g t C hC ht hm=>by rw[ms hm] at hC;rw[hC.type HBC.o] at ht;revert ht;decide
        obtain⟨R,r1,r2,r3,r4⟩:=Adw ml j N k q hok xs main hml'' _ w.heap.size (c+1) w3.heap.size w4.heap.size c u3.1 u3.2 b4 b7 A0 c0 v bv sv vb wb bk sb (by rw[<-HOB.o];exact HB3'.out) (HRC.o.ext e0f (by simp)) (fun a ha hx=>HRC.o.blk_lt a ha hx)
         f3.2.1 (f3.2.2.ext e1f (hn _ (by omega))) (f4.1.ext e1f (hn _ (by omega))) (f7.1.ext e1f (hn _ (by omega)))
         (fun d hd8=>by
          obtain⟨a1,a2⟩:=HI1.o.2.2 d hd8;have:=a1.lt;exact⟨a1.ext e3f (hn _ (by omega)),a2,this⟩)
         (An HRI.o.row hE (fun g hg=>hn _ (by have:=Bf HRI.o.row g hg;omega))) HW3.o
         (fun i hi=>by
          obtain⟨a1,a2⟩:=HRI.o.one i hi;have:=a1.lt;exact⟨a1.ext hE (hn _ (by omega)),a2,this⟩)
         (hBI.ext HEC.o hcell) ⟨by omega,by omega,by omega,by omega⟩ ⟨by omega,by omega,by omega,by omega⟩ HNE.o ⟨by omega,by omega⟩
        exact⟨R,by rw[r2];rfl,e0f,r1,r3,r4⟩)
end Go.Proofs.YtkgmhggliifkjaaGreat
