import Derived.Test.YtkgmhggliifkjaaGreatRows
import Derived.WalkKit
import Derived.WalkSpells
import Derived.WalkLawsBesides
import Derived.KernelRfl
import Derived.Lib.Hide
import Derived.Deep.Draws
import Derived.Deep.QuietTactic
import Derived.BigQuiet
import Derived.Deep.Quiet
import Derived.Deep.AppendLies
import Derived.Deep.RegionLaw
namespace Go.Proofs.YtkgmhggliifkjaaGreat
open Go.RowKit Go.Proofs.Tryz
set_option linter.all false
set_option maxHeartbeats 8000000
set_option maxRecDepth 4000
section
structure Ext (S:List Nat)(w w':World):Prop where
 os:w'.os=w.os
 tape:w'.tape=w.tape
 output:w'.output=w.output
 size:w.heap.size<=w'.heap.size
 block:∀k,k<w.heap.size->k∉S->w'.heap[k]? = w.heap[k]?
theorem Ext.refl (S:List Nat)(w:World):Ext S w w:=⟨rfl,rfl,rfl,Nat.le_refl _,fun _ _ _=>rfl⟩
theorem Ext.step {S T:List Nat}{a b c:World}(h:Ext S a b)(k:Ext T b c)(hT:∀x,x∈T->x∈S\/a.heap.size<=x):Ext S a c:=
 ⟨k.os.trans h.os,k.tape.trans h.tape,k.output.trans h.output,Nat.le_trans h.size k.size,fun i hi hn=>
  (k.block i (Nat.lt_of_lt_of_le hi h.size) (fun hx=>by rcases hT i hx with h1|h1;exact hn h1;omega)).trans (h.block i hi hn)⟩
theorem Ext.trans {S:List Nat}{a b c:World}(h:Ext S a b)(k:Ext S b c):Ext S a c:=h.step k fun _ hx=>.inl hx
theorem Ext.mono {S T:List Nat}{a b:World}(h:Ext S a b)(hT:∀x,x∈S->x∈T\/a.heap.size<=x):Ext T a b:=(Ext.refl T a).step h hT
theorem Ext.drew {S:List Nat}{a w:World}(h:Ext S a w):Ext S a w.drew:=⟨h.os,h.tape,h.output,h.size,h.block⟩
theorem Ext.drewN {S:List Nat}{a w:World}(h:Ext S a w)(n:Nat):Ext S a (w.drewN n):=⟨h.os,h.tape,h.output,h.size,h.block⟩
theorem Ext.alloc {S:List Nat}{a w:World}(h:Ext S a w)(o:Obj):Ext S a (w.alloc o):=
 ⟨h.os,h.tape,h.output,Nat.le_trans h.size (by simp),fun i hi hn=>(Below.heap_alloc w o i (Nat.lt_of_lt_of_le hi h.size)).trans (h.block i hi hn)⟩
theorem Ext.setCell {S:List Nat}{a w:World}(h:Ext S a w){p:Addr}(hp:p.block∈S\/a.heap.size<=p.block)(u:Value):Ext S a (w.setCell p u):=
 ⟨h.os,h.tape,h.output,by simpa[World.setCell] using h.size,fun i hi hn=>(Below.heap_setCell w p u i (by
  rintro rfl;rcases hp with hp|hp
  ·exact hn hp
  ·omega)).trans (h.block i hi hn)⟩
theorem Ext.setAt {S:List Nat}{a w:World}{b i:Nat}{u:Value}(hb:b∈S\/a.heap.size<=b)(h:Ext S a w):Ext S a (w.setCell ⟨b,i,none⟩ u):=h.setCell hb u
theorem Ext.grown {S:List Nat}{a w w':World}{row:Option Nat}(h:Ext S a w)(hg:w.grownBy w' row)(hr:∀k,row=some k->k∈S\/a.heap.size<=k):Ext S a w':=
 ⟨hg.os.trans h.os,hg.tape.trans h.tape,hg.output.trans h.output,Nat.le_trans h.size hg.size,fun i hi hn=>
  (hg.block i (Nat.lt_of_lt_of_le hi h.size) (fun e=>by rcases hr i e.symm with h1|h1;exact hn h1;omega)).trans (h.block i hi hn)⟩
theorem Ext.cell {S:List Nat}{w w':World}(h:Ext S w w'){p:Addr}(hp:p.block<w.heap.size)(hn:p.block∉S):w'.cell? p=w.cell? p:=
 World.cell?_of_block (w:=w) (h.block p.block hp hn)
theorem Ext.frozen {S:List Nat}{w w':World}(h:Ext S w w'){p:Addr}(hp:p.block<w.heap.size)(hn:p.block∉S):w'.frozen? p=w.frozen? p:=
 World.frozen?_of_block (w:=w) (h.block p.block hp hn)
theorem Ext.nil {S:List Nat}{w w':World}(h:Ext [] w w'):Ext S w w':=h.mono (by simp)
theorem Ext.held {S:List Nat}{w w':World}(h:Ext S w w'){p:Addr}{v:Value}(hp:w.cell? p=some v)(hn:p.block∉S):w'.cell? p=some v:=
 (h.cell (World.block_lt_of_cell? w p hp) hn).trans hp
def Blk (w:World)(g:Nat)(t:TypeId)(cs:Array Value):Prop:=w.heap[g]? = some (.cells cs t (0,0))
section
variable {w w':World} {g:Nat} {t:TypeId} {cs:Array Value}
theorem Blk.lt (h:Blk w g t cs):g<w.heap.size:=by
 rcases Nat.lt_or_ge g w.heap.size with hlt|hge
 ·exact hlt
 ·unfold Blk at h;rw[Array.getElem?_eq_none hge] at h;cases h
theorem Blk.cell (h:Blk w g t cs)(i:Nat):w.cell? ⟨g,i,none⟩=cs[i]?:=cell_of_row w g i cs t (0,0) h
theorem Blk.frozen (h:Blk w g t cs)(i:Nat):w.frozen? ⟨g,i,none⟩=false:=by
 unfold Blk at h;simp[World.frozen?,h]
theorem Blk.both (h:Blk w g t cs):(∀i,w.cell? ⟨g,i,none⟩=cs[i]?)/\(∀i,w.frozen? ⟨g,i,none⟩=false):=⟨h.cell,h.frozen⟩
theorem Blk.new (w:World)(t:TypeId)(cs:Array Value):Blk (w.alloc (.cells cs t)) w.heap.size t cs:=by
 show(w.heap.push _)[w.heap.size]? = _
 simp
theorem Blk.new' (w:World)(t:TypeId)(cs:Array Value)(n:Nat)(hn:n=w.heap.size):Blk (w.alloc (.cells cs t)) n t cs:=by
 subst hn;exact Blk.new w t cs
theorem Blk.drew (h:Blk w g t cs):Blk w.drew g t cs:=h
theorem Blk.drewN (h:Blk w g t cs)(n:Nat):Blk (w.drewN n) g t cs:=h
theorem Blk.alloc (h:Blk w g t cs)(o:Obj):Blk (w.alloc o) g t cs:=(Below.heap_alloc w o g h.lt).trans h
theorem Blk.set_ (h:Blk w g t cs)(i:Nat)(u:Value):Blk (w.setCell ⟨g,i,none⟩ u) g t (cs.setIfInBounds i u):=by
 unfold Blk at h⊢;simp[World.setCell,Array.getElem?_modify,h]
theorem Blk.set_' (h:Blk w g t cs)(i:Nat)(u:Value)(cs':Array Value)(e:cs.setIfInBounds i u=cs'):Blk (w.setCell ⟨g,i,none⟩ u) g t cs':=e ▸ h.set_ i u
theorem Blk.far (h:Blk w g t cs){p:Addr}(hp:g≠p.block)(u:Value):Blk (w.setCell p u) g t cs:=(Below.heap_setCell w p u g hp).trans h
theorem Blk.ext {S:List Nat}(h:Blk w g t cs)(hb:Ext S w w')(hg:g∉S):Blk w' g t cs:=(hb.block g h.lt hg).trans h
end
theorem Blk.all9 {w:World}{b:Nat}{t:TypeId}{x0 x1 x2 x3 x4 x5 x6 x7 x8:Value}(h:Blk w b t #[x0,x1,x2,x3,x4,x5,x6,x7,x8])(y0 y1 y2 y3 y4 y5 y6 y7 y8:Value) :
  Blk (((((((((w.setCell ⟨b,0,none⟩ y0).setCell ⟨b,1,none⟩ y1).setCell ⟨b,2,none⟩ y2).setCell ⟨b,3,none⟩ y3).setCell ⟨b,4,none⟩ y4).setCell ⟨b,5,none⟩ y5).setCell ⟨b,6,none⟩ y6).setCell ⟨b,7,none⟩ y7).setCell ⟨b,8,none⟩ y8) b t #[y0,y1,y2,y3,y4,y5,y6,y7,y8]:=by
 have h0:=h.set_' 0 y0 #[y0,x1,x2,x3,x4,x5,x6,x7,x8] rfl;have h1:=h0.set_' 1 y1 #[y0,y1,x2,x3,x4,x5,x6,x7,x8] rfl;have h2:=h1.set_' 2 y2 #[y0,y1,y2,x3,x4,x5,x6,x7,x8] rfl;have h3:=h2.set_' 3 y3 #[y0,y1,y2,y3,x4,x5,x6,x7,x8] rfl;have h4:=h3.set_' 4 y4 #[y0,y1,y2,y3,y4,x5,x6,x7,x8] rfl;have h5:=h4.set_' 5 y5 #[y0,y1,y2,y3,y4,y5,x6,x7,x8] rfl;have h6:=h5.set_' 6 y6 #[y0,y1,y2,y3,y4,y5,y6,x7,x8] rfl;have h7:=h6.set_' 7 y7 #[y0,y1,y2,y3,y4,y5,y6,y7,x8] rfl;have h8:=h7.set_' 8 y8 #[y0,y1,y2,y3,y4,y5,y6,y7,y8] rfl;exact h8
def Hd (p:Prop):Prop:=p
theorem hd {p:Prop}(h:p):Hd p:=h
theorem Hd.out {p:Prop}(h:Hd p):p:=h
theorem Hd.o {p:Prop}(h:Hd p):p:=h
attribute [irreducible] Hd
theorem er {S:List Nat}{w:World}:Ext S w w:=Ext.refl S w
theorem ms {α:Type}{a b:α}(h:a∈[b]):a=b:=List.mem_singleton.1 h
theorem nl {a b c:Nat}(h:a<b)(k:b<=c):a<c:=Nat.lt_of_lt_of_le h k
theorem nt {a b c:Nat}(h:a<=b)(k:b<=c):a<=c:=Nat.le_trans h k
theorem ijp {c:Prop}{i:Decidable c}(h:c){α:Type}{t e:α}:ite c t e=t:=if_pos h
theorem ijn {c:Prop}{i:Decidable c}(h:¬c){α:Type}{t e:α}:ite c t e=e:=if_neg h
theorem ils {α:Type}{l:List α}{i:Nat}{a:α}(h:l[i]? = some a):∃h:i<l.length,l[i]=a:=List.getElem?_eq_some_iff.1 h
theorem ilm {α:Type}{l:List α}{i:Nat}{a:α}(h:l[i]? = some a):a∈l:=List.mem_of_getElem? h
theorem Addr.add_mk (b o i:Nat):(⟨b,o,none⟩:Addr).add i=⟨b,o+i,none⟩:=by
 unfold Addr.add;split<;>simp_all
theorem Abh (x n:Int)(hn:1<=n) : -n<x.tmod n:=by
 by_cases h:x<0
 ·have h1:x = -(-x):=by omega
  rw[h1,Int.neg_tmod];have:=Int.tmod_lt_of_pos (-x) (b:=n) (by omega);omega
 ·have:=Int.tmod_nonneg n (Int.not_lt.1 h);omega
theorem Abi (x n:Int)(hn:1<=n):x.tmod n<n:=Int.tmod_lt_of_pos _ (by omega)
theorem Ai {k:IntKind}{a b:Int}(h:a=b):Ending.returned (.int k a)=.returned (.int k b):=by rw[h]
theorem Ay {a b:Bool}(h:a=b):Ending.returned (.bool a)=.returned (.bool b):=by rw[h]
def Db (xs:List Int):Array Value:=(xs.map (Value.int .i64)).toArray
theorem PT:(∀(a:Act) (d:Tmp) (v:Value),a.put (some d) v={a with tmps:=a.tmps.setIfInBounds d v })/\(∀(a:Act) (v:Value),a.put none v=a)/\(∀(l:List Value) (i:Nat) (x:Value),l.toArray.setIfInBounds i x=(l.set i x).toArray)/\(∀(x y:Value) (l:List Value),(x :: l).set 0 y=y :: l)/\(∀(x y:Value) (l:List Value) (n:Nat),(x :: l).set (n+1) y=x :: l.set n y):=
 ⟨fun _ _ _=>rfl,fun _ _=>rfl,fun _ _ _=>by simp,fun _ _ _=>rfl,fun _ _ _ _=>rfl⟩
theorem TK:(∀(x:Oper) (l:List Oper) (n:Nat),(x :: l).take (n+1)=x :: l.take n)/\(∀l:List Oper,l.take 0=[])/\(∀(x:Oper) (l:List Oper) (n:Nat),(x :: l).drop (n+1)=l.drop n)/\(∀l:List Oper,l.drop 0=l):=
 ⟨fun _ _ _=>rfl,fun _=>rfl,fun _ _ _=>rfl,fun _=>rfl⟩
instance iV:Coe Int Value:=⟨fun x=>.int .i64 x⟩
instance iN:Coe Nat Value:=⟨fun x=>.int .i64 (x:Int)⟩
instance iA:Coe Nat Addr:=⟨fun b=>⟨b,0,none⟩⟩
theorem CL {p:Prop}(h:p:=by((go_simp;try go_bits);first|rfl|exact⟨rfl,rfl⟩)):p:=h
end
def Stm (w:World)(base g n:Nat):Prop:=∃(A:Option Addr) (len cap:Nat) (k:Int),
 Blk w g 25 #[.slice A len cap,k]/\base<=g/\0<=k/\k+n<=1152921504606846976/\len<=9223372036854775807/\
 (0<len->∃b o,A=some ⟨b,o,none⟩/\b<base/\∀i,i<len->∃x,w.cell? ⟨b,o+i,none⟩=some (.int .i64 x))
theorem Stm.lt {w:World}{base g n:Nat}(h:Stm w base g n):g<w.heap.size:=by
 obtain⟨A,len,cap,k,h,_⟩:=h;exact h.lt
theorem Stm.base {w:World}{base g n:Nat}(h:Stm w base g n):base<=g:=by
 obtain⟨A,len,cap,k,_,h,_⟩:=h;exact h
theorem Stm.less {w:World}{base g n m:Nat}(h:Stm w base g n)(hm:m<=n):Stm w base g m:=by
 obtain⟨A,len,cap,k,h1,h2,h3,h4,h5⟩:=h;exact⟨A,len,cap,k,h1,h2,h3,by omega,h5⟩
theorem Stm.ext {S:List Nat}{w w':World}{base g n:Nat}(h:Stm w base g n)(he:Ext S w w')(hg:g∉S)(hS:∀x,x∈S->base<=x):Stm w' base g n:=by
 obtain⟨A,len,cap,k,h1,h2,h3,h4,h5,h6⟩:=h;refine⟨A,len,cap,k,h1.ext he hg,h2,h3,h4,h5,fun hl=>?_⟩
 obtain⟨b,o,rfl,hb,hc⟩:=h6 hl;refine⟨b,o,rfl,hb,fun i hi=>?_⟩
 obtain⟨x,hx⟩:=hc i hi;exact⟨x,he.held hx (fun hm=>by have:=hS _ hm;simp at this;omega)⟩
theorem Stm.drew {w:World}{base g n:Nat}(h:Stm w base g n):Stm w.drew base g n:=h
theorem Stm.drewN {w:World}{base g n:Nat}(h:Stm w base g n)(k:Nat):Stm (w.drewN k) base g n:=h
theorem Stm.alloc {w:World}{base g n:Nat}(h:Stm w base g n)(o:Obj):Stm (w.alloc o) base g n:=h.ext (S:=[]) (er.alloc o) (by simp) (by simp)
theorem Stm.setCell {w:World}{base g n:Nat}(h:Stm w base g n){p:Addr}(hp:g≠p.block)(hb:base<=p.block)(u:Value):Stm (w.setCell p u) base g n:=
 h.ext (S:=[p.block]) (er.setCell (.inl (by simp)) u) (by simpa using hp) (by simpa using hb)
theorem Stm.setAt {w:World}{base g n b i:Nat}{u:Value}(hg:g≠b)(hb:base<=b)(h:Stm w base g n):Stm (w.setCell ⟨b,i,none⟩ u) base g n:=h.setCell hg hb u
theorem Tn (x n:Int)(w:World)(hn:n<=9223372036854775807) :
  Calls prog 60 #[x,n] w fun e w'=>∃r:Int,e=.returned (.int .i64 r)/\0<=r/\(1<=n->r<n)/\w=w':=by
 by_cases h1:n<1
 ·go_enter func60,ntmps60
  go_wp2
  go_ret
  exact⟨0,rfl,Int.le_refl _,fun h=>by omega,rfl⟩
 ·have hlo:=Abh x n (by omega);have hhi:=Abi x n (by omega);go_enter func60,ntmps60
  go_wp2
  ·go_ret
   exact⟨_,rfl,by omega,by omega,rfl⟩
  ·go_ret
   exact⟨_,rfl,by omega,by omega,rfl⟩
def Ll (base g n:Nat)(w:World)(R:Int->Prop)(e:Ending)(w':World):Prop:=
 ∃r:Int,e=.returned (.int .i64 r)/\R r/\Ext [g] w w'/\Stm w' base g n
theorem Bk (base g n:Nat)(m:Int)(w:World)(h:Stm w base g (n+1))(hm:m<=9223372036854775807) :
  Calls prog 24 #[.pointer (some g),m] w (Ll base g n w fun r=>0<=r/\(1<=m->r<m)):=by
 obtain⟨A,len,cap,k,hB,hbase,hk,hkn,hlen,hl⟩:=h;obtain⟨hc,hf⟩:=hB.both
 have hend:∀j,Ext [g] w ((w.setCell ⟨g,1,none⟩ (.int .i64 (k+1))).drewN j)/\Stm ((w.setCell ⟨g,1,none⟩ (.int .i64 (k+1))).drewN j) base g n:=by
  intro j;have hE:Ext [g] w ((w.setCell ⟨g,1,none⟩ (.int .i64 (k+1))).drewN j):=(er.setCell (.inl (by simp)) _).drewN j;refine⟨hE,A,len,cap,k+1,(hB.set_' 1 _ _ rfl).drewN j,hbase,by omega,by omega,hlen,fun h0=>?_⟩
  obtain⟨b,o,rfl,hb,hcc⟩:=hl h0;refine⟨b,o,rfl,hb,fun i hi=>?_⟩
  obtain⟨x,hx⟩:=hcc i hi;exact⟨x,hE.held hx (by simp;omega)⟩
 have HE:=hd hend;clear hend;by_cases h0:len=0
 ·subst h0;clear hl;go_enter func24,ntmps24
  go_wp2_with (go_at_call 60;refine(Tn _ _ _ (by omega)).mono ?_;rintro e w' ⟨r,rfl,hr0,hr1,rfl⟩)
  go_ret
  exact⟨_,rfl,⟨hr0,hr1⟩,HE.o 0⟩
 ·obtain⟨b,o,rfl,hb,hcc⟩:=hl (by omega);clear hl
  obtain⟨x,hx⟩:=hcc (k % len).toNat (by
   have:=Int.emod_lt_of_pos k (b:=(len:Int)) (by omega);have:=Int.emod_nonneg k (b:=(len:Int)) (by omega);omega)
  clear hcc;have hl0:((len:Int)==0)=false:=by simp;omega
  have hq0:0<=k / len:=Int.ediv_nonneg hk (by omega);have hm0:0<=k % len:=Int.emod_nonneg _ (by omega);have hm1:k % len<len:=Int.emod_lt_of_pos _ (by omega);go_enter func24,ntmps24
  go_wp2_with fail
  go_quiet (fail)
  go_wp2_with fail
  go_quiet (fail)
  go_wp2_with (go_at_call 60;refine(Tn _ _ _ (by omega)).mono ?_;rintro e w' ⟨r,rfl,hr0,hr1,rfl⟩)
  go_ret
  exact⟨_,rfl,⟨hr0,hr1⟩,HE.o _⟩
theorem Ch (base g n:Nat)(lo hi:Int)(w:World)(h:Stm w base g (n+1))(h1 : -1152921504606846976<=lo/\lo<=1152921504606846976)(h2 : -1152921504606846976<=hi/\hi<=1152921504606846976) :
  Calls prog 21 #[.pointer (some g),lo,hi] w (Ll base g n w fun r=>lo<=r/\(r<=lo\/r<=hi)):=by
 obtain⟨a1,a2⟩:=h1;obtain⟨b1,b2⟩:=h2;by_cases hlt:hi<lo
 ·go_enter func21,ntmps21
  go_wp2_with fail
  go_ret
  exact⟨_,rfl,⟨by omega,by omega⟩,er,h.less (by omega)⟩
 ·go_enter func21,ntmps21
  go_wp2_with fail
  refine(Bk base g n _ _ h (by omega)).mono ?_
  rintro e w' ⟨r,rfl,⟨hr0,hr1⟩,hE,hS⟩;replace hr1:=hr1 (by omega);go_wp2_with fail
  go_ret
  exact⟨_,rfl,⟨by omega,by omega⟩,hE,hS⟩
def Aga (base g n:Nat)(w:World)(e:Ending)(w':World):Prop:=
 ∃b:Bool,e=.returned (.bool b)/\Ext [g] w w'/\Stm w' base g n
theorem Hw (base g n:Nat)(m:Int)(w:World)(h:Stm w base g (n+1))(hm:m<=9223372036854775807) :
  Calls prog 26 #[.pointer (some g),m] w (Aga base g n w):=by
 go_enter func26,ntmps26
 go_wp2_with (go_at_call 24;refine(Bk base g n _ _ h (by omega)).mono ?_;rintro e w' ⟨r,rfl,⟨hr0,hr1⟩,hE,hS⟩)
 go_ret
 exact⟨_,rfl,hE,hS⟩
theorem Cn (base g n b cap:Nat)(t:TypeId)(xs:List Int)(w:World)(h:Stm w base g (n+1))(hb:Blk w b t (Db xs))(hbg:b≠g)(hx:0<xs.length/\xs.length<=9223372036854775807) :
  Calls prog 22 #[.pointer (some g),.slice (some b) xs.length cap] w (Ll base g n w fun r=>r∈xs):=by
 obtain⟨hx0,hx1⟩:=hx;have HB:=hd hb;clear hb;go_enter func22,ntmps22
 go_wp2_with fail
 refine(Bk base g n _ _ h (by omega)).mono ?_
 rintro e w' ⟨r,rfl,⟨hr0,hr1⟩,hE,hS⟩;replace hr1:=hr1 (by omega)
 have hc:w'.cell? ⟨b,0+r.toNat,none⟩=some (.int .i64 (xs[r.toNat]'(by omega))):=by
  rw[(HB.o.ext hE (by simpa using hbg)).cell];have hlt:r.toNat<xs.length:=by omega
  simp[Db,hlt]
 have hmem:xs[r.toNat]'(by omega)∈xs:=List.getElem_mem _;generalize xs[r.toNat]'(by omega)=y at hc hmem;have HM:=hd hmem;clear hmem;rw[Nat.zero_add] at hc;go_wp2_with fail
 go_ret
 exact⟨_,rfl,HM.o,hE,hS⟩
theorem Vy (base g n:Nat)(w:World)(h:Stm w base g (n+3)) :
  Calls prog 61 #[.pointer (some g)] w (Ll base g n w fun r=>-2147483648<=r/\r<=2147483647):=by
 go_enter func61,ntmps61
 go_wp2_with fail
 refine(Bk base g (n+2) _ _ h (by omega)).mono ?_
 rintro e w1 ⟨r,rfl,⟨hr0,hr1⟩,hE,hS⟩;replace hr1:=hr1 (by omega)
 go_wp2_with (first
  | (go_at_call 24;refine(Bk base g _ _ _ (by assumption) (by omega)).mono ?_;rintro e w2 ⟨q,rfl,⟨hq0,hq1⟩,hE2,hS2⟩;replace hq1:=hq1 (by omega))
  | (go_at_call 21;refine(Ch base g _ _ _ _ (by assumption) (by omega) (by omega)).mono ?_;rintro e w2 ⟨q,rfl,⟨hq0,hq1⟩,hE2,hS2⟩))
 ·go_ret
  exact⟨_,rfl,⟨by omega,by omega⟩,hE.trans hE2,hS2.less (by omega)⟩
 ·go_ret
  exact⟨_,rfl,⟨by omega,by omega⟩,hE.trans hE2,hS2.less (by omega)⟩
 ·rename_i hE3 hS3 _ _ _ _ _ _
  go_ret
  exact⟨_,rfl,⟨by omega,by omega⟩,(hE.trans (by assumption)).trans hE2,hS2.less (by omega)⟩
 ·go_ret
  exact⟨_,rfl,⟨by omega,by omega⟩,hE.trans hE2,hS2.less (by omega)⟩
section
structure Bo where
 α:Type
 d:α
 f:α->Value
 V:α->World->Prop
section
variable {P:Program} {ops:Array Oper} {J:Nat->World->Prop} {R:World->World->Prop} {S:Nat->Option Bo}
def Vz (P:Program)(J':World->Prop)(V:Value->World->Prop):Result Next->Prop
 | .ok (.value u) w'=>V u w'/\J' w'
 | .ok .skip w'=>V undef w'/\J' w'
 | .ok (.enter f args) w'=>Calls P f args w' fun e w''=>∃v,e=.returned v/\V v w''/\J' w''
 | _=>False
def Fc (P:Program)(o:Oper)(a:Act)(J':World->Prop)(V:Value->World->Prop)(w:World):Prop:=Vz P J' V ((execOp a.eval o).run P w)
def Uo (u:Value)(w:World):Result Next->Prop
 | .ok (.value v) w'=>w'=w/\v=u
 | .ok .skip w'=>w'=w/\undef=u
 | _=>False
def Hx (P:Program)(o:Oper)(a:Act)(u:Value)(w:World):Prop:=Uo u w ((execOp a.eval o).run P w)
theorem Kp {o:Oper}{a:Act}{u v:Value}{w:World}(h:Hx P o a u w)(k:Hx P o a v w):u=v:=by
 unfold Hx at h k;generalize (execOp a.eval o).run P w=r at *;cases r with
 | ok n w'=>
  cases n<;>simp only[Uo] at h k
  case value x=>exact h.2.symm.trans k.2
  case skip=>exact h.2.symm.trans k.2
 | halt x w'=>exact h.elim
def upd (F:Nat->World->Prop)(i:Nat)(A:World->Prop):Nat->World->Prop:=fun j w=>if j=i then A w else F j w
theorem Wb {F:Nat->World->Prop}{i j:Nat}{A B:World->Prop}(h:i≠j):upd (upd F i A) j B=upd (upd F j B) i A:=by
 funext k w
 unfold upd;by_cases h1:k=i
 ·subst h1;simp[h]
 ·by_cases h2:k=j
  ·subst h2;simp[Ne.symm h]
  ·simp[h1,h2]
theorem Fv {o:Oper}(hs:∀cs b,o.op≠.select cs b){a:Act}{dst:Option Tmp}{v:Value}(h:∀d,dst=some d->d∉o.looksAt ops){J':World->Prop}{V:Value->World->Prop}{w:World} :
  Fc P o (a.put dst v) J' V w ↔ Fc P o a J' V w:=by
 unfold Fc;rw[execOp_put (ops:=ops) o hs a dst v h]
theorem Fl {o:Oper}(hs:∀cs b,o.op≠.select cs b){a:Act}{dst:Option Tmp}{v:Value}(h:∀d,dst=some d->d∉o.looksAt ops){u:Value}{w:World} :
  Hx P o (a.put dst v) u w ↔ Hx P o a u w:=by
 unfold Hx;rw[execOp_put (ops:=ops) o hs a dst v h]
theorem Kq {o:Oper}{a:Act}{J':World->Prop}{V:Value->World->Prop}{w:World}{K:Act->World->Prop}{Q:Exit->Act->World->Prop}(h:Fc P o a J' V w)
  (hK:∀v w',V v w'->J' w'->K (a.put o.dst v) w'):o.wp P a w K Q:=by
 unfold Fc at h;unfold Oper.wp;generalize (execOp a.eval o).run P w=r at *;cases r with
 | ok n w'=>
  cases n<;>simp only[Vz] at h<;>simp only[Oper.upon]
  case value u=>exact hK _ _ h.1 h.2
  case skip=>exact hK _ _ h.1 h.2
  case enter f args=>exact h.mono fun e w'' ⟨v,he,hv,hj⟩=>by subst he;exact hK _ _ hv hj
 | halt x w'=>exact h.elim
theorem Ph {o:Oper}{a:Act}{u:Value}{w:World}{K:Act->World->Prop}{Q:Exit->Act->World->Prop}(h:Hx P o a u w)(hK:K (a.put o.dst u) w):o.wp P a w K Q:=by
 unfold Hx at h;unfold Oper.wp;generalize (execOp a.eval o).run P w=r at *;cases r with
 | ok n w'=>
  cases n<;>simp only[Uo] at h<;>simp only[Oper.upon]
  case value v=>obtain⟨rfl,rfl⟩:=h;exact hK
  case skip=>obtain⟨rfl,rfl⟩:=h;exact hK
 | halt x w'=>exact h.elim
def Lm (ops:Array Oper)(p:Nat):Bool:=
 Region.noSelect ops&&decide (p<=ops.size)&&(List.range ops.size).all fun i=>match ops[i]? with
  | none=>false
  | some oi=>(oi.after.all fun e=>!Region.binds .any e||decide (e.on<i)) &&
    if i<p then(List.range i).all fun j=>(oi.after.any fun e=>Region.binds .any e&&e.on==j)||match ops[j]? with|some oj=>oj.apart ops oi|none=>false
    else(List.range i).all fun j=>(List.range i).any fun d=>match ops[i-d]? with|some ok=>decide (j<i-d)&&ok.after.any fun e=>Region.binds .any e&&e.on==j|none=>false
theorem El {p:Nat}(h:Lm ops p=true){i:Nat}{oi:Oper}(hi:ops[i]? = some oi) :
  (∀e∈oi.after,Region.binds .any e=true->e.on<i)/\
  (i<p->∀j oj,j<i->ops[j]? = some oj->(∀e∈oi.after,Region.binds .any e=true->e.on≠j)->oj.apart ops oi=true)/\
  (p<=i->∀j,j<i->∃k ok,j<k/\k<=i/\ops[k]? = some ok/\∃e∈ok.after,Region.binds .any e=true/\e.on=j):=by
 simp only[Lm,Bool.and_eq_true,List.all_eq_true,List.mem_range] at h;have hlt:i<ops.size:=(Array.getElem?_eq_some_iff.1 hi).1;have h1:=h.2 i hlt;simp only[hi,Bool.and_eq_true,Array.all_eq_true_iff_forall_mem,Bool.or_eq_true,Bool.not_eq_true',decide_eq_true_eq] at h1;refine⟨fun e he hb=>(h1.1 e he).resolve_left (by simp[hb]),fun hip j oj hj hoj hno=>?_,fun hip j hj=>?_⟩
 ·have h2:=h1.2;rw[if_pos hip] at h2;simp only[List.all_eq_true,List.mem_range,Bool.or_eq_true] at h2;rcases h2 j hj with h2|h2
  ·obtain⟨e,he,hb⟩:=Array.any_eq_true'.1 h2;simp only[Bool.and_eq_true,beq_iff_eq] at hb;exact absurd hb.2 (hno e he hb.1)
  ·simpa[hoj] using h2
 ·have h2:=h1.2;rw[if_neg (by omega)] at h2;simp only[List.all_eq_true,List.mem_range,List.any_eq_true] at h2;obtain⟨d,hd,h3⟩:=h2 j hj;cases hk:ops[i-d]? with
  | none=>simp[hk] at h3
  | some ok=>
   simp only[hk,Bool.and_eq_true,decide_eq_true_eq] at h3;obtain⟨e,he,hb⟩:=Array.any_eq_true'.1 h3.2;simp only[Bool.and_eq_true,beq_iff_eq] at hb;exact⟨i-d,ok,h3.1,by omega,hk,e,he,hb⟩
def Up (ops:Array Oper)(listed:Array Bool):Prop:=∀k ok,ops[k]? = some ok->listed.getD k false=true->∀e∈ok.after,Region.binds .any e=true->listed.getD e.on false=true
theorem Up.set {listed:Array Bool}(h:Up ops listed){i:Nat}{oi:Oper}(hi:ops[i]? = some oi)(hall:∀e∈oi.after,Region.binds .any e=true->listed.getD e.on false=true):Up ops (listed.setIfInBounds i true):=by
 intro k ok hk hl e he hb;by_cases hki:k=i
 ·subst hki;rw[hi] at hk;cases hk
  exact getD_set_true (hall e he hb)
 ·rw[getD_set_ne false (Ne.symm hki)] at hl;exact getD_set_true (h k ok hk hl e he hb)
theorem Nh {p:Nat}(hB:Lm ops p=true){listed:Array Bool}(hsh:Up ops listed){i:Nat}{oi:Oper}(hi:ops[i]? = some oi)(hip:p<=i)
  (hall:∀e∈oi.after,Region.binds .any e=true->listed.getD e.on false=true):∀d j,i-j<=d->j<i->listed.getD j false=true:=by
 intro d
 induction d with
 | zero=>intro j h1 h2;omega
 | succ d ih=>
  intro j h1 h2;obtain⟨k,ok,hjk,hki,hok,e,he,hb,heq⟩:=(El hB hi).2.2 hip j h2;rcases Nat.lt_or_ge k i with hlt|hge
  ·have:=hsh k ok hok (ih k (by omega) hlt) e he hb;rw[heq] at this;exact this
  ·have hke:k=i:=by omega
   subst hke;rw[hi] at hok;cases hok
   have:=hall e he hb;rw[heq] at this;exact this
theorem Wc {p:Nat}(hB:Lm ops p=true)(j:Nat)(o:Oper)(cs:Array SelectCase)(b:Bool)(ho:ops[j]? = some o):o.op≠.select cs b:=by
 simp only[Lm,Bool.and_eq_true] at hB;exact Region.noSelect_spec hB.1.1 j o cs b ho
theorem Ns {p:Nat}(hB:Lm ops p=true):p<=ops.size:=by
 simp only[Lm,Bool.and_eq_true,decide_eq_true_eq] at hB;exact hB.1.2
theorem Kr {listed:Array Bool}{j:Nat}(hj:j<listed.size)(h:¬listed.getD j true=false):listed.getD j false=true:=by
 simp[Array.getElem?_eq_getElem hj] at h⊢;exact h
theorem Gq {listed:Array Bool}{j:Nat}(hj:j<listed.size)(h:listed.getD j false=true):¬listed.getD j true=false:=by
 simp[Array.getElem?_eq_getElem hj] at h⊢;exact h
theorem Ni {p:Nat}{Q':Exit->Act->World->Prop}(hB:Lm ops p=true) :
  ∀(l:List Oper) (k:Nat) (listed:Array Bool) (a:Act) (w:World),p<=k->listed.size=ops.size->k+l.length=ops.size->(∀j,l[j]? = ops[k+j]?)->
   (∀j,j<ops.size->(listed.getD j true=false ↔ k<=j))->Up ops listed->wpList P ops Q' l a w->wpAny P .any ops Q' l.length listed a w
 | [],k,listed,a,w,hp,hsz,hlen,hl,hun,hsh,h=>by
  refine⟨?_,h⟩
  apply List.eq_nil_iff_forall_not_mem.2
  intro i hi;obtain⟨h0,o,ho,_⟩:=mem_ready.1 hi;have hio:i<ops.size:=(Array.getElem?_eq_some_iff.1 ho).1;have:=(hun i hio).1 h0;simp at hlen;omega
 | o :: l,k,listed,a,w,hp,hsz,hlen,hl,hun,hsh,h=>by
  have hk:ops[k]? = some o:=by simpa using(hl 0).symm
  have hko:k<ops.size:=(Array.getElem?_eq_some_iff.1 hk).1
  have hready:k∈Region.ready .any ops listed:=by
   refine mem_ready.2 ⟨(hun k hko).2 (Nat.le_refl _),o,hk,fun e he hb=>?_⟩
   have hlt:=(El hB hk).1 e he hb;exact Kr (by omega) (fun hg=>by have:=(hun e.on (by omega)).1 hg;omega)
  refine⟨fun hr=>(by rw[hr] at hready;cases hready),fun i hi=>?_⟩
  obtain⟨h0,oi,hoi,hall⟩:=mem_ready.1 hi;have hio:i<ops.size:=(Array.getElem?_eq_some_iff.1 hoi).1;have hki:k<=i:=(hun i hio).1 h0
  have hik:i=k:=by
   rcases Nat.lt_or_ge k i with hlt|hge
   ·exfalso
    exact Gq (by omega) (Nh hB hsh hoi (by omega) hall _ k (Nat.le_refl _) hlt) ((hun k hko).2 (Nat.le_refl _))
   ·omega
  subst hik
  have hrec:∀a' w',wpList P ops Q' l a' w'->wpAny P .any ops Q' l.length (listed.setIfInBounds i true) a' w':=fun a' w' h'=>
   Ni hB l (i+1) _ a' w' (by omega) (by simpa using hsz) (by simp at hlen;omega) (fun j=>by have:=hl (j+1);simpa[Nat.add_assoc,Nat.add_comm 1 j] using this) (fun j hj=>by
    by_cases hji:j=i
    ·subst hji;simp[show j<listed.size by omega]
    ·rw[getD_set_ne true (Ne.symm hji),hun j hj];omega) (hsh.set hoi hall) h'
  unfold wpOp;rw[hoi];have hoe:oi=o:=by rw[hk] at hoi;exact(Option.some.inj hoi).symm
  subst hoe;unfold wpList at h;show if Region.wanted oi (yielded ops a.tmps)=true then _ else _
  split
  ·rename_i hw;rw[if_pos hw] at h;exact h.imp (Oper.wp_mono hrec) id
  ·rename_i hw;rw[if_neg hw] at h;exact hrec _ _ h
def Gx:Nat->List Oper->List (Nat×Oper)
 | _,[]=>[]
 | k,o :: l=>(k,o) :: Gx (k+1) l
theorem Jr:∀(l:List Oper) (k:Nat),(Gx k l).length=l.length
 | [],_=>rfl
 | _ :: l,k=>by simp[Gx,Jr l]
theorem Ks:∀(l:List Oper) (k j:Nat) (o:Oper),(j,o)∈Gx k l ↔ k<=j/\l[j-k]? = some o
 | [],_,_,_=>by simp[Gx]
 | x :: l,k,j,o=>by
  simp only[Gx,List.mem_cons,Prod.mk.injEq,Ks l (k+1) j o];rcases Nat.lt_trichotomy j k with h|h|h
  ·constructor
   ·rintro(⟨h1,_⟩|⟨h1,_⟩)<;>omega
   ·rintro⟨h1,_⟩;omega
  ·subst h;simp only[Nat.sub_self,List.getElem?_cons_zero,true_and,Nat.le_refl,Option.some.injEq];constructor
   ·rintro(h1|⟨h1,_⟩)
    ·exact h1.symm
    ·omega
   ·exact fun h1=>.inl h1.symm
  ·obtain⟨d,rfl⟩:∃d,j=k+1+d:=⟨j-k-1,by omega⟩;have e1:k+1+d-k=d+1:=by omega
   have e2:k+1+d-(k+1)=d:=by omega
   rw[e1,e2,List.getElem?_cons_succ];constructor
   ·rintro(⟨h1,_⟩|⟨_,h2⟩)
    ·omega
    ·exact⟨by omega,h2⟩
   ·rintro⟨_,h2⟩;exact .inr ⟨by omega,h2⟩
theorem Js:∀(l:List Oper) (k:Nat),((Gx k l).map (·.1)).Pairwise (· < ·)
 | [],_=>by simp[Gx]
 | x :: l,k=>by
  simp only[Gx,List.map_cons,List.pairwise_cons];refine⟨fun j hj=>?_,Js l (k+1)⟩
  obtain⟨⟨i,o⟩,hm,rfl⟩:=List.mem_map.1 hj;have:=(Ks l (k+1) i o).1 hm;simp;omega
end
structure Gr (ops:Array Oper)(i:Nat)(r:Nat->Bool):Prop where
 mine:r i=true
 ready:∀oi,ops[i]? = some oi->∀e∈oi.after,Region.binds .any e=true->r e.on=false
 shut:∀j oj,ops[j]? = some oj->r j=false->∀e∈oj.after,Region.binds .any e=true->r e.on=false
def off (r:Nat->Bool)(i:Nat):Nat->Bool:=fun j=>r j && !(j==i)
theorem Gr.later {ops:Array Oper}{i:Nat}{r:Nat->Bool}(h:Gr ops i r)(j:Nat)(hj:(ops[j]?.map fun oj=>oj.after.any fun e=>Region.binds .any e&&e.on==i)=some true):r j=true:=by
 cases ho:ops[j]? with
 | none=>rw[ho] at hj;cases hj
 | some oj=>
  rw[ho] at hj;simp only[Option.map_some,Option.some.injEq] at hj;obtain⟨e,he,hb⟩:=Array.any_eq_true'.1 hj;simp only[Bool.and_eq_true,beq_iff_eq] at hb;cases hr:r j with
  | true=>rfl
  | false=>
   have:=h.shut j oj ho hr e he hb.1;rw[hb.2,h.mine] at this;cases this
theorem Fw {a:Array Bool}{i:Nat}(hi:i<a.size)(h:a.getD i false=true):a.getD i true=true:=by
 simp[Array.getD_eq_getD_getElem?,hi] at h⊢;exact h
theorem Ln {a:Array Bool}{i:Nat}(hi:i<a.size)(h:a.getD i true=true):a.getD i false=true:=by
 simp[Array.getD_eq_getD_getElem?,hi] at h⊢;exact h
def rem (listed:Array Bool):Nat->Bool:=fun j=>!(listed.getD j true)
end
section
section
variable {P:Program} {ops:Array Oper} {p:Nat} {J:(Nat->Bool)->World->Prop} {R:Nat->World->World->Prop} {S:Nat->Option Bo}
def Kt (P:Program)(ops:Array Oper)(p:Nat)(J:(Nat->Bool)->World->Prop)(R:Nat->World->World->Prop)(S:Nat->Option Bo)(Q:Act->World->Prop):List (Nat×Oper)->Act->(Nat->World->Prop)->Prop
 | [],a,F=>∀w r,(∀j,j<ops.size->r j=decide (p<=j))->J r w->(∀i,F i w)->Q a w
 | (i,o) :: rest,a,F=>
  if Region.wanted o (yielded ops a.tmps) then
   match S i with
   | none=>∃u,(∀w r,Gr ops i r->J r w->Hx P o a u w)/\Kt P ops p J R S Q rest (a.put o.dst u) F
   | some s=>(∀w r,Gr ops i r->J r w->(∀e∈o.after,Region.binds .any e=true->F e.on w)->Fc P o a (fun w'=>J (off r i) w'/\R i w w') (fun v w'=>∃x,v=s.f x/\s.V x w') w)/\
     ∀x:s.α,Kt P ops p J R S Q rest (a.put o.dst (s.f x)) (upd F i (s.V x))
  else Kt P ops p J R S Q rest (a.put o.dst undef) F
def Li (P:Program)(ops:Array Oper)(J:(Nat->Bool)->World->Prop)(R:Nat->World->World->Prop)(S:Nat->Option Bo)(i:Nat)(o:Oper)(a:Act)(F:Nat->World->Prop)(K:Act->(Nat->World->Prop)->Prop):Prop:=
 if Region.wanted o (yielded ops a.tmps) then
  match S i with
  | none=>∃u,(∀w r,Gr ops i r->J r w->Hx P o a u w)/\K (a.put o.dst u) F
  | some s=>(∀w r,Gr ops i r->J r w->(∀e∈o.after,Region.binds .any e=true->F e.on w)->Fc P o a (fun w'=>J (off r i) w'/\R i w w') (fun v w'=>∃x,v=s.f x/\s.V x w') w)/\
    ∀x:s.α,K (a.put o.dst (s.f x)) (upd F i (s.V x))
 else K (a.put o.dst undef) F
theorem Pi {Q:Act->World->Prop}{i:Nat}{o:Oper}{rest:List (Nat×Oper)}{a:Act}{F:Nat->World->Prop} :
  Kt P ops p J R S Q ((i,o) :: rest) a F=Li P ops J R S i o a F (Kt P ops p J R S Q rest):=rfl
theorem Ab2 {i j:Nat}{oi oj:Oper}{a:Act}{F:Nat->World->Prop}{K:Act->(Nat->World->Prop)->Prop}(hij:i≠j)(hsi:∀cs b,oi.op≠.select cs b)(hsj:∀cs b,oj.op≠.select cs b)
  (hap:oj.apart ops oi=true) (hi:∀e∈oi.after,Region.binds .any e=true->e.on≠j) (hj:∀e∈oj.after,Region.binds .any e=true->e.on≠i)
  (hw:∃w r,Gr ops i r/\J r w)
  (h:Li P ops J R S j oj a F fun a' F'=>Li P ops J R S i oi a' F' K):Li P ops J R S i oi a F fun a' F'=>Li P ops J R S j oj a' F' K:=by
 obtain⟨h1,h2,h3⟩:=Oper.apart_spec hap;have h2':∀d,oi.dst=some d->oj.dst≠some d:=fun d hd he=>h2 d he hd
 obtain⟨w0,k0,hg0,hw0⟩:=hw;have wi:∀v,Region.wanted oi (yielded ops (a.put oj.dst v).tmps)=Region.wanted oi (yielded ops a.tmps):=fun v=>wanted_put oi a oj.dst v h1
 have wj:∀v,Region.wanted oj (yielded ops (a.put oi.dst v).tmps)=Region.wanted oj (yielded ops a.tmps):=fun v=>wanted_put oj a oi.dst v h3
 unfold Li at h⊢;simp only[wi,wj] at h⊢;by_cases cj:Region.wanted oj (yielded ops a.tmps)=true
 ·simp only[cj,if_true] at h⊢;by_cases ci:Region.wanted oi (yielded ops a.tmps)=true
  ·simp only[ci,if_true] at h⊢;cases hSi:S i with
   | none=>
    cases hSj:S j with
    | none=>
     simp only[hSi,hSj] at h⊢;obtain⟨u,hu,v,hv,hK⟩:=h;refine⟨v,fun w k hg hJ=>(Fl (ops:=ops) hsi h1).1 (hv w k hg hJ),u,fun w k hg hJ=>(Fl (ops:=ops) hsj h3).2 (hu w k hg hJ),?_⟩
     rw[Act.put_comm a v u h2'];exact hK
    | some s=>
     simp only[hSi,hSj] at h⊢;obtain⟨hu,hx⟩:=h;obtain⟨v,hv,_⟩:=hx s.d;refine⟨v,fun w k hg hJ=>(Fl (ops:=ops) hsi h1).1 (hv w k hg hJ),fun w k hg hJ hF=>(Fv (ops:=ops) hsj h3).2 (hu w k hg hJ hF),fun x=>?_⟩
     obtain⟨v',hv',hK⟩:=hx x;have:v'=v:=Kp ((Fl (ops:=ops) hsi h1).1 (hv' w0 k0 hg0 hw0)) ((Fl (ops:=ops) hsi h1).1 (hv w0 k0 hg0 hw0));subst this;rw[Act.put_comm a _ _ h2'];exact hK
   | some t=>
    cases hSj:S j with
    | none=>
     simp only[hSi,hSj] at h⊢;obtain⟨u,hu,hv,hK⟩:=h;refine⟨fun w k hg hJ hF=>(Fv (ops:=ops) hsi h1).1 (hv w k hg hJ hF),fun y=>⟨u,fun w k hg hJ=>(Fl (ops:=ops) hsj h3).2 (hu w k hg hJ),?_⟩⟩
     rw[Act.put_comm a _ _ h2'];exact hK y
    | some s=>
     simp only[hSi,hSj] at h⊢;obtain⟨hu,hx⟩:=h;refine⟨fun w k hg hJ hF=>(Fv (ops:=ops) hsi h1).1 ((hx s.d).1 w k hg hJ (fun e he hb=>by have:=hi e he hb;simp only[upd,if_neg this];exact hF e he hb)),fun y=>⟨fun w k hg hJ hF=>(Fv (ops:=ops) hsj h3).2 (hu w k hg hJ (fun e he hb=>by have h0:=hF e he hb;simp only[upd,if_neg (hj e he hb)] at h0;exact h0)),fun x=>?_⟩⟩
     rw[Act.put_comm a _ _ h2',Wb hij];exact(hx x).2 y
  ·have ci':Region.wanted oi (yielded ops a.tmps)=false:=by simpa using ci
   simp only[ci',Bool.false_eq_true,if_false] at h⊢;cases hSj:S j with
   | none=>
    simp only[hSj] at h⊢;obtain⟨u,hu,hK⟩:=h;refine⟨u,fun w k hg hJ=>(Fl (ops:=ops) hsj h3).2 (hu w k hg hJ),?_⟩
    rw[Act.put_comm a _ _ h2'];exact hK
   | some s=>
    simp only[hSj] at h⊢;obtain⟨hu,hx⟩:=h;refine⟨fun w k hg hJ hF=>(Fv (ops:=ops) hsj h3).2 (hu w k hg hJ hF),fun x=>?_⟩
    rw[Act.put_comm a _ _ h2'];exact hx x
 ·have cj':Region.wanted oj (yielded ops a.tmps)=false:=by simpa using cj
  simp only[cj',Bool.false_eq_true,if_false] at h⊢;by_cases ci:Region.wanted oi (yielded ops a.tmps)=true
  ·simp only[ci,if_true] at h⊢;cases hSi:S i with
   | none=>
    simp only[hSi] at h⊢;obtain⟨v,hv,hK⟩:=h;refine⟨v,fun w k hg hJ=>(Fl (ops:=ops) hsi h1).1 (hv w k hg hJ),?_⟩
    rw[Act.put_comm a _ _ h2'];exact hK
   | some t=>
    simp only[hSi] at h⊢;obtain⟨hv,hK⟩:=h;refine⟨fun w k hg hJ hF=>(Fv (ops:=ops) hsi h1).1 (hv w k hg hJ hF),fun y=>?_⟩
    rw[Act.put_comm a _ _ h2'];exact hK y
  ·have ci':Region.wanted oi (yielded ops a.tmps)=false:=by simpa using ci
   simp only[ci',Bool.false_eq_true,if_false] at h⊢;rw[Act.put_comm a _ _ h2'];exact h
theorem To {i:Nat}{o:Oper}{a:Act}{F:Nat->World->Prop}{K K':Act->(Nat->World->Prop)->Prop}(hK:∀a F,K a F->K' a F)(h:Li P ops J R S i o a F K):Li P ops J R S i o a F K':=by
 unfold Li at *;split
 ·rename_i c
  simp only[c,if_true] at h;cases hS:S i with
  | none=>simp only[hS] at h⊢;exact⟨h.choose,h.choose_spec.1,hK _ _ h.choose_spec.2⟩
  | some s=>simp only[hS] at h⊢;exact⟨h.1,fun x=>hK _ _ (h.2 x)⟩
 ·rename_i c
  simp only[c] at h;exact hK _ _ h
theorem Pj {Q:Act->World->Prop}{i:Nat}{oi:Oper}(hw:∃w r,Gr ops i r/\J r w){l2:List (Nat×Oper)}(hsi:∀cs b,oi.op≠.select cs b) :
  ∀(l1:List (Nat×Oper)) (a:Act) (F:Nat->World->Prop),
   (∀j oj,(j,oj)∈l1->i≠j/\(∀cs b,oj.op≠.select cs b)/\oj.apart ops oi=true/\(∀e∈oi.after,Region.binds .any e=true->e.on≠j)/\(∀e∈oj.after,Region.binds .any e=true->e.on≠i))->
   Kt P ops p J R S Q (l1 ++ (i,oi) :: l2) a F->Li P ops J R S i oi a F (Kt P ops p J R S Q (l1 ++ l2))
 | [],_,_,_,h=>h
 | (j,oj) :: l1,a,F,hl,h=>by
  obtain⟨h1,h2,h3,h4,h5⟩:=hl j oj (by simp);rw[List.cons_append,Pi] at h;have h':=To (fun a' F' hh=>Pj hw hsi l1 a' F' (fun k ok hk=>hl k ok (by simp[hk])) hh) h;exact Ab2 h1 hsi h2 h3 h4 h5 hw h'
theorem Sd {p m:Nat}{Q:Act->World->Prop}{Q':Exit->Act->World->Prop}(hB:Lm ops p=true)
  (hQ:∀listed a w,listed.size=ops.size->(∀j,j<ops.size->(listed.getD j true=false ↔ p<=j))->Up ops listed->Q a w->wpAny P .any ops Q' m listed a w)
  (hJ:∀i r w,(S i=none\/∃oi,ops[i]? = some oi/\oi.guard≠none)->Gr ops i r->J r w->J (off r i) w) (hS:∀i s j,S i=some s->j≠i->∀x w w',R j w w'->s.V x w->s.V x w') :
  ∀(n:Nat) (l:List (Nat×Oper)) (listed:Array Bool) (a:Act) (w:World) (F:Nat->World->Prop),l.length=n->listed.size=ops.size->
   (∀j oj,(j,oj)∈l ↔ ops[j]? = some oj/\j<p/\listed.getD j true=false)->(∀j,j<ops.size->p<=j->listed.getD j true=false)->(l.map (·.1)).Pairwise (· < ·)->
   (∀i j w w',i≠j->R i w w'->F j w->F j w')->(∀j,F j w)->J (rem listed) w->Up ops listed->Kt P ops p J R S Q l a F->wpAny P .any ops Q' (n+m) listed a w:=by
 have hns:=fun j o cs b=>Wc (ops:=ops) hB j o cs b
 have hle:=Ns hB;intro n
 induction n with
 | zero=>
  intro l listed a w F hl hsz hmem htl hsort hst hF hj hsh h;have hl0:l=[]:=List.eq_nil_of_length_eq_zero hl;subst hl0;rw[Nat.zero_add]
  have hiff:∀j,j<ops.size->(listed.getD j true=false ↔ p<=j):=fun j hj'=>⟨fun h0=>by
   rcases Nat.lt_or_ge j p with hlt|hge
   ·have:=(hmem j _).2 ⟨Array.getElem?_eq_getElem hj',hlt,h0⟩;simp at this
   ·exact hge,htl j hj'⟩
  refine hQ _ _ _ hsz hiff hsh (h w (rem listed) (fun j hj'=>?_) hj hF)
  unfold rem;cases hc:listed.getD j true
  ·simp[(hiff j hj').1 hc]
  ·have:¬p<=j:=fun hp=>by rw[(hiff j hj').2 hp] at hc;cases hc
   simp[this]
 | succ n ih=>
  intro l listed a w F hl hsz hmem htl hsort hst hF hj hsh h
  have hfirst:∃i oi l',l=(i,oi) :: l':=by
   match l,hl with
   | (i,oi) :: l',_=>exact⟨i,oi,l',rfl⟩
  rw[show n+1+m=(n+m)+1 by omega];refine⟨fun hr=>?_,fun i hi=>?_⟩
  ·
   exfalso
   obtain⟨i,oi,l',rfl⟩:=hfirst;obtain⟨hoi,hip,hun⟩:=(hmem i oi).1 (by simp)
   have:i∈Region.ready .any ops listed:=by
    refine mem_ready.2 ⟨hun,oi,hoi,fun e he hb=>?_⟩
    have hlt:=(El hB hoi).1 e he hb;have hio:i<ops.size:=(Array.getElem?_eq_some_iff.1 hoi).1;have heo:ops[e.on]? = some (ops[e.on]'(by omega)):=Array.getElem?_eq_getElem (by omega);refine Kr (by omega) fun hg=>?_
    have hm:=(hmem e.on _).2 ⟨heo,by omega,hg⟩;rcases List.mem_cons.1 hm with h1|h1
    ·have:=congrArg Prod.fst h1;simp at this;omega
    ·simp only[List.map_cons,List.pairwise_cons] at hsort;have:=hsort.1 e.on (List.mem_map.2 ⟨_,h1,rfl⟩);omega
   rw[hr] at this;cases this
  ·obtain⟨hun,oi,hoi,hall⟩:=mem_ready.1 hi;have hio:i<ops.size:=(Array.getElem?_eq_some_iff.1 hoi).1
   have hnolist:∀j,j<ops.size->listed.getD j true=false->∀e∈oi.after,Region.binds .any e=true->e.on≠j:=fun j hj' hjf e he hb heq=>by
    have h1:=hall e he hb;rw[heq] at h1;exact Gq (by omega) h1 hjf
   have hip:i<p:=by
    rcases Nat.lt_or_ge i p with hlt|hge
    ·exact hlt
    ·exfalso
     obtain⟨j,oj,l',rfl⟩:=hfirst;obtain⟨hoj,hjp,hjf⟩:=(hmem j oj).1 (by simp);exact Gq (by omega) (Nh hB hsh hoi hge hall _ j (Nat.le_refl _) (by omega)) hjf
   have hin:=(hmem i oi).2 ⟨hoi,hip,hun⟩;obtain⟨l1,l2,rfl⟩:=List.append_of_mem hin
   have hnd:∀j oj,(j,oj)∈l1 ++ l2->j≠i:=by
    intro j oj hj' he;subst he;rw[List.map_append,List.map_cons,List.pairwise_append] at hsort;obtain⟨_,s2,s3⟩:=hsort;rcases List.mem_append.1 hj' with h1|h1
    ·have:=s3 j (List.mem_map.2 ⟨_,h1,rfl⟩) j (by simp);omega
    ·have:=(List.pairwise_cons.1 s2).1 j (List.mem_map.2 ⟨_,h1,rfl⟩);omega
   have hmem':∀j oj,(j,oj)∈l1 ++ l2 ↔ ops[j]? = some oj/\j<p/\(listed.setIfInBounds i true).getD j true=false:=by
    intro j oj;by_cases hji:j=i
    ·subst hji;refine⟨fun h'=>absurd rfl (hnd _ _ h'),fun h'=>?_⟩
     have hlt:j<listed.size:=by omega
     simp[hlt] at h'
    ·rw[getD_set_ne true (Ne.symm hji),<-hmem j oj];simp[hji]
   have htl':∀j,j<ops.size->p<=j->(listed.setIfInBounds i true).getD j true=false:=fun j hj' hpj=>by
    rw[getD_set_ne true (by omega)];exact htl j hj' hpj
   have hsort':((l1 ++ l2).map (·.1)).Pairwise (· < ·):=by
    refine List.Pairwise.sublist ?_ hsort
    exact List.Sublist.map _ (List.Sublist.append (List.Sublist.refl l1) (List.sublist_cons_self _ _))
   have hgood:Gr ops i (rem listed):=by
    refine⟨by simp[rem,hun],fun o ho e he hb=>?_,fun j oj ho hr e he hb=>?_⟩
    ·rw[hoi] at ho;cases ho;have hlt:=(El hB hoi).1 e he hb;have:=Fw (i:=e.on) (by omega) (hall e he hb);simp[rem,this]
    ·have hlt:=(El hB ho).1 e he hb;have hjo:j<ops.size:=(Array.getElem?_eq_some_iff.1 ho).1
     have hjl:listed.getD j false=true:=by
      have h1:listed.getD j true=true:=by simpa[rem] using hr
      exact Ln (by omega) h1
     have:=Fw (i:=e.on) (by omega) (hsh j oj ho hjl e he hb);simp[rem,this]
   have hset:rem (listed.setIfInBounds i true)=off (rem listed) i:=by
    funext j
    by_cases hji:j=i
    ·subst hji;have:j<listed.size:=by omega
     simp[rem,off,this]
    ·simp[rem,off,getD_set_ne true (Ne.symm hji),hji]
   have hpull:=Pj (P:=P) (ops:=ops) (p:=p) (J:=J) (R:=R) (S:=S) ⟨w,_,hgood,hj⟩ (fun cs b=>hns i oi cs b hoi) l1 a F (fun j oj hjl=>by
    have hjm:=(hmem j oj).1 (List.mem_append_left _ hjl);have hjo:j<ops.size:=(Array.getElem?_eq_some_iff.1 hjm.1).1
    have hlt:j<i:=by
     rw[List.map_append,List.map_cons,List.pairwise_append] at hsort;exact hsort.2.2 j (List.mem_map.2 ⟨_,hjl,rfl⟩) i (by simp)
    have hno:=hnolist j hjo hjm.2.2;exact⟨by omega,fun cs b=>hns j oj cs b hjm.1,(El hB hoi).2.1 hip j oj hlt hjm.1 hno,hno,fun e he hb=>by have:=(El hB hjm.1).1 e he hb;omega⟩) h
   have hlen:(l1 ++ l2).length=n:=by simp at hl⊢;omega
   unfold wpOp;rw[hoi];show if Region.wanted oi (yielded ops a.tmps)=true then _ else _
   unfold Li at hpull;split
   ·rename_i hwd
    left
    simp only[hwd,if_true] at hpull;cases hSi:S i with
    | none=>
     simp only[hSi] at hpull;obtain⟨u,hu,hK⟩:=hpull;exact Ph (hu w _ hgood hj) (ih (l1 ++ l2) _ _ w F hlen (by simpa using hsz) hmem' htl' hsort' hst hF (hset ▸ hJ i _ w (.inl hSi) hgood hj) (hsh.set hoi hall) hK)
    | some s=>
     simp only[hSi] at hpull;refine Kq (hpull.1 w _ hgood hj (fun e he hb=>hF _)) fun v w' hv hj'=>?_
     obtain⟨x,rfl,hx⟩:=hv;refine ih (l1 ++ l2) _ _ w' (upd F i (s.V x)) hlen (by simpa using hsz) hmem' htl' hsort' ?_ ?_ (hset ▸ hj'.1) (hsh.set hoi hall) (hpull.2 x)
     ·intro i' j w1 w2 hne hr hf;unfold upd at hf⊢;split
      ·rename_i hh;simp only[hh,if_true] at hf;exact hS i s i' hSi (by rw[<-hh];exact hne) x _ _ hr hf
      ·rename_i hh;simp only[hh,if_false] at hf;exact hst _ _ _ _ hne hr hf
     ·intro j;unfold upd;split
      ·exact hx
      ·rename_i hh;exact hst i j _ _ (fun e=>hh e.symm) hj'.2 (hF j)
   ·rename_i hwd
    simp only[hwd] at hpull;exact ih (l1 ++ l2) _ _ w F hlen (by simpa using hsz) hmem' htl' hsort' hst hF (hset ▸ hJ i _ w (.inr ⟨oi,hoi,fun hg=>hwd (by simp[Region.wanted,hg])⟩) hgood hj) (hsh.set hoi hall) hpull
def Cx (P:Program)(ops:Array Oper)(p:Nat)(J:(Nat->Bool)->World->Prop)(R:Nat->World->World->Prop)(S:Nat->Option Bo)(Q:Act->World->Prop):Nat->List Oper->Act->(Nat->World->Prop)->Prop
 | _,[],a,F=>∀w r,(∀j,j<ops.size->r j=decide (p<=j))->J r w->(∀i,F i w)->Q a w
 | k,o :: rest,a,F=>Li P ops J R S k o a F (Cx P ops p J R S Q (k+1) rest)
theorem Tp {Q:Act->World->Prop}:∀(l:List Oper) (k:Nat) (a:Act) (F:Nat->World->Prop),Cx P ops p J R S Q k l a F->Kt P ops p J R S Q (Gx k l) a F
 | [],_,_,_,h=>h
 | _ :: l,k,a,F,h=>by
  unfold Gx;rw[Pi];exact To (fun a' F' hh=>Tp l (k+1) a' F' hh) h
theorem Fx {id:Nat}{Q:Exit->Act->World->Prop}{a:Act}{w:World}{l:List Oper}(p:Nat)(J:(Nat->Bool)->World->Prop)(R:Nat->World->World->Prop)(S:Nat->Option Bo)(hm:P.follows .mixedOrders=true)(hB:Lm l.toArray p=true)
  (hJ:∀i r w,(S i=none\/∃oi,l.toArray[i]? = some oi/\oi.guard≠none)->Gr l.toArray i r->J r w->J (off r i) w) (hS:∀i s j,S i=some s->j≠i->∀x w w',R j w w'->s.V x w->s.V x w') (h0:J (fun j=>decide (j<l.length)) w.drew)
  (h:Cx P l.toArray p J R S (fun a w=>wpList P l.toArray Q (l.drop p) a w) 0 (l.take p) a (fun _ _=>True)):(Code.region id l.toArray true).wp P Q a w:=by
 have hle:p<=l.length:=by simpa using Ns hB
 have hlen:(l.take p).length=p:=by simp;omega
 have hsz:l.toArray.size=p+(l.drop p).length:=by simp;omega
 refine wp_region_any hm ?_
 rw[hsz];refine Sd (m:=(l.drop p).length) (Q:=fun a w=>wpList P l.toArray Q (l.drop p) a w) hB ?_ hJ hS p (Gx 0 (l.take p)) _ a _ (fun _ _=>True) (by rw[Jr,hlen]) (by simp;omega) ?_ ?_ (Js _ _) (by simp) (by simp) ?_ ?_ (Tp _ _ _ _ h)
 ·intro listed a' w' hs hun hsh h';exact Ni hB (l.drop p) p listed a' w' (Nat.le_refl _) hs hsz.symm (fun j=>by simp) hun hsh h'
 ·intro j oj;rw[Ks];have hd:p+(l.drop p).length=l.length:=by simp;omega
  have hr:∀j,(Array.replicate (p+(l.drop p).length) false).getD j true=false ↔ j<l.length:=fun j=>by
   rw[hd];by_cases hj:j<l.length<;>simp[hj]
  rw[hr];simp only[Nat.zero_le,true_and,Nat.sub_zero,List.getElem?_toArray];constructor
  ·intro h1;rw[List.getElem?_take] at h1;split at h1
   ·rename_i hjp
    exact⟨h1,hjp,by have:=(List.getElem?_eq_some_iff.1 h1).1;omega⟩
   ·cases h1
  ·rintro⟨h1,h2,_⟩;rw[List.getElem?_take,if_pos h2];exact h1
 ·intro j hj _;have hd:p+(l.drop p).length=l.length:=by simp;omega
  have hj':j<l.length:=by simpa using hj
  rw[hd];simp[hj']
 ·have hrm:rem (Array.replicate (p+(l.drop p).length) false)=fun j=>decide (j<l.length):=by
   have hd:p+(l.drop p).length=l.length:=by simp;omega
   rw[hd];funext j
   by_cases hj:j<l.length<;>simp[rem,hj]
  rw[hrm];exact h0
 ·intro k ok _ hk;simp[Array.getD_eq_getD_getElem?,Array.getElem?_replicate] at hk;split at hk<;>simp at hk
section
variable {Q:Act->World->Prop} {k:Nat} {o:Oper} {rest:List Oper} {a:Act} {F:Nat->World->Prop}
theorem Nj (h:∀w r,(∀j,j<ops.size->r j=decide (p<=j))->J r w->(∀i,F i w)->Q a w):Cx P ops p J R S Q k [] a F:=h
theorem Iv (hS:S k=none)(hw:Region.wanted o (yielded ops a.tmps)=true)(h:∃u,(∀w n,Gr ops k n->J n w->(execOp a.eval o).run P w=.ok (.value u) w)/\Cx P ops p J R S Q (k+1) rest (a.put o.dst u) F) :
  Cx P ops p J R S Q k (o :: rest) a F:=by
 obtain⟨u,hu,h⟩:=h;unfold Cx Li;rw[if_pos hw,hS];exact⟨u,fun w n hg hJ=>by unfold Hx;rw[hu w n hg hJ];exact⟨rfl,rfl⟩,h⟩
theorem dEU {u:Value}(h2:∀w n,Gr ops k n->J n w->(execOp a.eval o).run P w=.ok (.value u) w)(h3:Cx P ops p J R S Q (k+1) rest (a.put o.dst u) F)(hS:S k=none:=by exact rfl)(hw:Region.wanted o (yielded ops a.tmps)=true:=by exact rfl) :
  Cx P ops p J R S Q k (o :: rest) a F:=Iv hS hw ⟨u,h2,h3⟩
theorem Wd (hw:Region.wanted o (yielded ops a.tmps)=false)(h:Cx P ops p J R S Q (k+1) rest (a.put o.dst undef) F):Cx P ops p J R S Q k (o :: rest) a F:=by
 unfold Cx Li;rw[if_neg (by simp[hw])];exact h
theorem Ku (s:Bo)(hS:S k=some s)(hw:Region.wanted o (yielded ops a.tmps)=true)
  (hu:∀w n,Gr ops k n->J n w->(∀e∈o.after,Region.binds .any e=true->F e.on w)->∃x w',(execOp a.eval o).run P w=.ok (.value (s.f x)) w'/\s.V x w'/\J (off n k) w'/\R k w w')
  (h:∀x:s.α,Cx P ops p J R S Q (k+1) rest (a.put o.dst (s.f x)) (upd F k (s.V x))):Cx P ops p J R S Q k (o :: rest) a F:=by
 unfold Cx Li;rw[if_pos hw,hS];refine⟨fun w n hg hJ hF=>?_,h⟩
 obtain⟨x,w',hr,hV,hJ',hR⟩:=hu w n hg hJ hF;unfold Fc;rw[hr];exact⟨⟨x,rfl,hV⟩,hJ',hR⟩
theorem We (s:Bo)(hS:S k=some s)(hw:Region.wanted o (yielded ops a.tmps)=true)
  (hh:∃(f:FuncId) (args:Array Value),(∀w,(execOp a.eval o).run P w=.ok (.enter f args) w)/\
   (∀w n,Gr ops k n->J n w->(∀e∈o.after,Region.binds .any e=true->F e.on w)->Calls P f args w fun e w'=>∃x,e=.returned (s.f x)/\s.V x w'/\J (off n k) w'/\R k w w'))
  (h:∀x:s.α,Cx P ops p J R S Q (k+1) rest (a.put o.dst (s.f x)) (upd F k (s.V x))):Cx P ops p J R S Q k (o :: rest) a F:=by
 obtain⟨f,args,hr,hu⟩:=hh;unfold Cx Li;rw[if_pos hw,hS];refine⟨fun w n hg hJ hF=>?_,h⟩
 unfold Fc;rw[hr w];exact(hu w n hg hJ hF).mono fun e w' ⟨x,he,hV,hJ',hR⟩=>⟨s.f x,he,⟨x,rfl,hV⟩,hJ',hR⟩
theorem Yu (s:Bo)(hS:S k=some s)(hw:Region.wanted o (yielded ops a.tmps)=true)(hf:∀x,s.f x=undef)
  (hu:∀w n,Gr ops k n->J n w->(∀e∈o.after,Region.binds .any e=true->F e.on w)->∃x w',(execOp a.eval o).run P w=.ok .skip w'/\s.V x w'/\J (off n k) w'/\R k w w')
  (h:∀x:s.α,Cx P ops p J R S Q (k+1) rest (a.put o.dst undef) (upd F k (s.V x))):Cx P ops p J R S Q k (o :: rest) a F:=by
 unfold Cx Li;rw[if_pos hw,hS];refine⟨fun w n hg hJ hF=>?_,fun x=>by rw[hf];exact h x⟩
 obtain⟨x,w',hr,hV,hJ',hR⟩:=hu w n hg hJ hF;unfold Fc;rw[hr];exact⟨⟨x,(hf x).symm,hV⟩,hJ',hR⟩
theorem Kv (hS:S k=some ⟨Unit,(),fun _=>undef,fun _ _=>True⟩)(hw:Region.wanted o (yielded ops a.tmps)=true)
  (hu:∀w n,Gr ops k n->J n w->(∀e∈o.after,Region.binds .any e=true->F e.on w)->∃w',(execOp a.eval o).run P w=.ok .skip w'/\J (off n k) w'/\R k w w')
  (h:Cx P ops p J R S Q (k+1) rest (a.put o.dst undef) (upd F k (fun _=>True))):Cx P ops p J R S Q k (o :: rest) a F:=by
 unfold Cx Li;rw[if_pos hw,hS];refine⟨fun w n hg hJ hF=>?_,fun _=>h⟩
 obtain⟨w',hr,hJ',hR⟩:=hu w n hg hJ hF;unfold Fc;rw[hr];exact⟨⟨(),rfl,trivial⟩,hJ',hR⟩
end
end
end
section
def Lj (W:Nat->Nat)(r:Nat->Bool):Nat->Nat
 | 0=>0
 | p+1=>Lj W r p+(if r p then W p else 0)
theorem Mh {W:Nat->Nat}{r r':Nat->Bool}:∀p,(∀j,j<p->r j=r' j)->Lj W r p=Lj W r' p
 | 0,_=>rfl
 | p+1,h=>by unfold Lj;rw[Mh p (fun j hj=>h j (by omega)),h p (by omega)]
theorem Tq {W:Nat->Nat}{r:Nat->Bool}:∀p,(∀j,j<p->r j=false)->Lj W r p=0
 | 0,_=>rfl
 | p+1,h=>by unfold Lj;rw[Tq p (fun j hj=>h j (by omega)),h p (by omega)];rfl
theorem Qn {W:Nat->Nat}{r:Nat->Bool}{k:Nat}(hr:r k=true):∀p,k<p->Lj W r p=Lj W (off r k) p+W k
 | p+1,h=>by
  unfold Lj;by_cases hp:p=k
  ·subst hp;rw[hr,Mh (r':=off r p) p (fun j hj=>by simp[off];intro h1 h2;omega)];simp[off]
  ·rw[Qn hr p (by omega),show off r k p=r p by simp[off,hp]];omega
section
variable {P:Program} {ops:Array Oper} {W:Nat->Nat} {J:Nat->World->Prop} {R:World->World->Prop} {S:Nat->Option Bo}
def Dw (P:Program)(ops:Array Oper)(W:Nat->Nat)(J:Nat->World->Prop)(R:World->World->Prop)(S:Nat->Option Bo)(Q:Act->World->Prop)(k:Nat)(l:List Oper)(a:Act)(F:Nat->World->Prop):Prop:=
 k+l.length<=ops.size->Cx P ops (k+l.length) (fun r w=>J (Lj W r (k+l.length)) w) (fun _=>R) S Q k l a F
theorem Lo {id:Nat}{Q:Exit->Act->World->Prop}{a:Act}{w:World}{l:List Oper}(p:Nat)(W:Nat->Nat)(J:Nat->World->Prop)(R:World->World->Prop)(S:Nat->Option Bo)(hm:P.follows .mixedOrders=true)(hB:Lm l.toArray p=true)
  (hJ:∀i k w,J (k+W i) w->J k w) (hS:∀i s,S i=some s->∀x w w',R w w'->s.V x w->s.V x w') (N:Nat) (hN:Lj W (fun _=>true) p=N) (h0:J N w.drew)
  (h:Dw P l.toArray W J R S (fun a w=>wpList P l.toArray Q (l.drop p) a w) 0 (l.take p) a (fun _ _=>True)):(Code.region id l.toArray true).wp P Q a w:=by
 have hle:p<=l.length:=by simpa using Ns hB
 have hlen:0+(l.take p).length=p:=by simp;omega
 have h1:=h (by rw[hlen];simpa using hle);rw[hlen] at h1;refine Fx p (fun r w=>J (Lj W r p) w) (fun _=>R) S hm hB (fun i r w _ hg hw=>?_) (fun i s _ hs _=>hS i s hs) ?_ h1
 ·by_cases hi:i<p
  ·refine hJ i _ w ?_
   rw[<-Qn hg.mine p hi];exact hw
  ·rw[Mh (r':=r) p (fun j hj=>by simp[off];intro _;omega)];exact hw
 ·rw[Mh (r':=fun _=>true) p (fun j hj=>by simp;omega),hN];exact h0
section
variable {Q:Act->World->Prop} {k:Nat} {o:Oper} {rest:List Oper} {a:Act} {F:Nat->World->Prop}
theorem Qg {n:Nat->Bool}(hg:Gr ops k n)(p:Nat)(hp:k<p){w:World}(h:J (Lj W n p) w):J (Lj W (off n k) p+W k) w:=by rw[<-Qn hg.mine p hp];exact h
theorem Hy (h:Dw P ops W J R S Q (k+1) rest a F)(hle:k+(o :: rest).length<=ops.size):Cx P ops (k+(o :: rest).length) (fun r w=>J (Lj W r (k+(o :: rest).length)) w) (fun _=>R) S Q (k+1) rest a F:=by
 have e:k+(o :: rest).length=k+1+rest.length:=by simp;omega
 rw[e] at hle⊢;exact h hle
theorem Qo (h:∀w,J 0 w->(∀i,F i w)->Q a w):Dw P ops W J R S Q k [] a F:=fun _ w r hr hJ hF=>h w (by
 have:Lj W r (k+0)=0:=Tq _ (fun j hj=>by rw[hr j (by simp at *;omega)];simp;omega);rw[<-this];exact hJ) hF
theorem Qp (hS:S k=none)(hw:Region.wanted o (yielded ops a.tmps)=true)(h:∃u,(∀w n,J (n+W k) w->(execOp a.eval o).run P w=.ok (.value u) w)/\Dw P ops W J R S Q (k+1) rest (a.put o.dst u) F) :
  Dw P ops W J R S Q k (o :: rest) a F:=fun hle=>by
 obtain⟨u,hu,h⟩:=h;exact Iv hS hw ⟨u,fun w n hg hJ=>hu w _ (Qg hg _ (by simp) hJ),Hy h hle⟩
theorem dEW {u:Value}(h2:∀w n,J (n+W k) w->(execOp a.eval o).run P w=.ok (.value u) w)(h3:Dw P ops W J R S Q (k+1) rest (a.put o.dst u) F)(hS:S k=none:=by exact rfl)(hw:Region.wanted o (yielded ops a.tmps)=true:=by exact rfl) :
  Dw P ops W J R S Q k (o :: rest) a F:=Qp hS hw ⟨u,h2,h3⟩
theorem Wf (hw:Region.wanted o (yielded ops a.tmps)=false)(h:Dw P ops W J R S Q (k+1) rest (a.put o.dst undef) F):Dw P ops W J R S Q k (o :: rest) a F:=fun hle=>Wd hw (Hy h hle)
theorem Il (s:Bo)(hS:S k=some s)(hw:Region.wanted o (yielded ops a.tmps)=true)
  (hu:∀w n,J (n+W k) w->(∀e∈o.after,Region.binds .any e=true->F e.on w)->∃x w',(execOp a.eval o).run P w=.ok (.value (s.f x)) w'/\s.V x w'/\J n w'/\R w w')
  (h:∀x:s.α,Dw P ops W J R S Q (k+1) rest (a.put o.dst (s.f x)) (upd F k (s.V x))):Dw P ops W J R S Q k (o :: rest) a F:=fun hle=>Ku s hS hw (fun w n hg hJ hF=>hu w _ (Qg hg _ (by simp) hJ) hF) (fun x=>Hy (h x) hle)
theorem Wg (s:Bo)(hS:S k=some s)(hw:Region.wanted o (yielded ops a.tmps)=true)
  (hh:∃(f:FuncId) (args:Array Value),(∀w,(execOp a.eval o).run P w=.ok (.enter f args) w)/\
   (∀w n,J (n+W k) w->(∀e∈o.after,Region.binds .any e=true->F e.on w)->Calls P f args w fun e w'=>∃x,e=.returned (s.f x)/\s.V x w'/\J n w'/\R w w'))
  (h:∀x:s.α,Dw P ops W J R S Q (k+1) rest (a.put o.dst (s.f x)) (upd F k (s.V x))):Dw P ops W J R S Q k (o :: rest) a F:=fun hle=>by
 obtain⟨f,args,hr,hu⟩:=hh;exact We s hS hw ⟨f,args,hr,fun w n hg hJ hF=>hu w _ (Qg hg _ (by simp) hJ) hF⟩ (fun x=>Hy (h x) hle)
theorem Yv (s:Bo)(hS:S k=some s)(hw:Region.wanted o (yielded ops a.tmps)=true)(hf:∀x,s.f x=undef)
  (hu:∀w n,J (n+W k) w->(∀e∈o.after,Region.binds .any e=true->F e.on w)->∃x w',(execOp a.eval o).run P w=.ok .skip w'/\s.V x w'/\J n w'/\R w w')
  (h:∀x:s.α,Dw P ops W J R S Q (k+1) rest (a.put o.dst undef) (upd F k (s.V x))):Dw P ops W J R S Q k (o :: rest) a F:=
 fun hle=>Yu s hS hw hf (fun w n hg hJ hF=>hu w _ (Qg hg _ (by simp) hJ) hF) (fun x=>Hy (h x) hle)
end
end
end
section
section
variable {P:Program} {ops:Array Oper} {J:Nat->World->Prop} {R:World->World->Prop} {S:Nat->Option Bo}
def Ax (P:Program)(ops:Array Oper)(J:Nat->World->Prop)(R:World->World->Prop)(S:Nat->Option Bo)(Q:Act->World->Prop)(k:Nat)(l:List Oper)(a:Act)(F:Nat->World->Prop):Prop:=
 Dw P ops (fun _=>1) J R S Q k l a F
theorem Wh:∀p,Lj (fun _=>1) (fun _=>true) p=p
 | 0=>rfl
 | p+1=>by unfold Lj;rw[Wh p];rfl
theorem Am {id:Nat}{Q:Exit->Act->World->Prop}{a:Act}{w:World}{l:List Oper}(p:Nat)(J:Nat->World->Prop)(R:World->World->Prop)(S:Nat->Option Bo)(hm:P.follows .mixedOrders=true)(hB:Lm l.toArray p=true)
  (hJ:∀k w,J (k+1) w->J k w) (hS:∀i s,S i=some s->∀x w w',R w w'->s.V x w->s.V x w') (h0:J p w.drew)
  (h:Ax P l.toArray J R S (fun a w=>wpList P l.toArray Q (l.drop p) a w) 0 (l.take p) a (fun _ _=>True)):(Code.region id l.toArray true).wp P Q a w:=
 Lo p (fun _=>1) J R S hm hB (fun _ k w h=>hJ k w h) hS p (Wh p) h0 h
section
variable {Q:Act->World->Prop} {k:Nat} {o:Oper} {rest:List Oper} {a:Act} {F:Nat->World->Prop}
theorem Aa (h:∀w,J 0 w->(∀i,F i w)->Q a w):Ax P ops J R S Q k [] a F:=Qo h
theorem Ab3 (hS:S k=none)(hw:Region.wanted o (yielded ops a.tmps)=true)(h:∃u,(∀w n,J (n+1) w->(execOp a.eval o).run P w=.ok (.value u) w)/\Ax P ops J R S Q (k+1) rest (a.put o.dst u) F) :
  Ax P ops J R S Q k (o :: rest) a F:=Qp hS hw h
theorem dE {u:Value}(h2:∀w n,J (n+1) w->(execOp a.eval o).run P w=.ok (.value u) w)(h3:Ax P ops J R S Q (k+1) rest (a.put o.dst u) F)(hS:S k=none:=by exact rfl)(hw:Region.wanted o (yielded ops a.tmps)=true:=by exact rfl) :
  Ax P ops J R S Q k (o :: rest) a F:=Ab3 hS hw ⟨u,h2,h3⟩
theorem Ee (hw:Region.wanted o (yielded ops a.tmps)=false)(h:Ax P ops J R S Q (k+1) rest (a.put o.dst undef) F):Ax P ops J R S Q k (o :: rest) a F:=Wf hw h
theorem Dh (s:Bo)(hS:S k=some s)(hw:Region.wanted o (yielded ops a.tmps)=true)
  (hu:∀w n,J (n+1) w->(∀e∈o.after,Region.binds .any e=true->F e.on w)->∃x w',(execOp a.eval o).run P w=.ok (.value (s.f x)) w'/\s.V x w'/\J n w'/\R w w')
  (h:∀x:s.α,Ax P ops J R S Q (k+1) rest (a.put o.dst (s.f x)) (upd F k (s.V x))):Ax P ops J R S Q k (o :: rest) a F:=Il s hS hw hu h
theorem Ey (s:Bo)(hS:S k=some s)(hw:Region.wanted o (yielded ops a.tmps)=true)
  (hh:∃(f:FuncId) (args:Array Value),(∀w,(execOp a.eval o).run P w=.ok (.enter f args) w)/\
   (∀w n,J (n+1) w->(∀e∈o.after,Region.binds .any e=true->F e.on w)->Calls P f args w fun e w'=>∃x,e=.returned (s.f x)/\s.V x w'/\J n w'/\R w w'))
  (h:∀x:s.α,Ax P ops J R S Q (k+1) rest (a.put o.dst (s.f x)) (upd F k (s.V x))):Ax P ops J R S Q k (o :: rest) a F:=Wg s hS hw hh h
end
end
end
structure Ins where
 op:Int
 k:Int
 d:Int
 a:Int
 b:Int
 c:Int
 p:Int
 n:Int
 m:Int
def Ins.cells (x:Ins):List Value:=[.int .i64 x.op,.int .i64 x.k,.int .i64 x.d,.int .i64 x.a,.int .i64 x.b,.int .i64 x.c,.int .i64 x.p,.int .i64 x.n,.int .i64 x.m]
def codeCells (l:List Ins):List Value:=l.flatMap Ins.cells
theorem Bg (l:List Ins):(codeCells l).length=l.length*9:=by
 induction l with
 | nil=>rfl
 | cons x l ih=>simp only[codeCells,List.flatMap_cons,List.length_append] at ih⊢;rw[ih];simp[Ins.cells];omega
theorem Qq (l:List Ins)(x:Ins):codeCells (l ++ [x])=codeCells l ++ x.cells:=by simp[codeCells]
structure Dx (B:Nat)(S:List Nat)(w w':World):Prop where
 os:w'.os=w.os
 tape:w'.tape=w.tape
 output:w'.output=w.output
 size:w.heap.size<=w'.heap.size
 block:∀k,k<B->k∉S->w'.heap[k]? = w.heap[k]?
theorem Dx.refl (B:Nat)(S:List Nat)(w:World):Dx B S w w:=⟨rfl,rfl,rfl,Nat.le_refl _,fun _ _ _=>rfl⟩
theorem Dx.trans {B:Nat}{S:List Nat}{a b c:World}(h:Dx B S a b)(k:Dx B S b c):Dx B S a c:=
 ⟨k.os.trans h.os,k.tape.trans h.tape,k.output.trans h.output,nt h.size k.size,fun i hi hn=>(k.block i hi hn).trans (h.block i hi hn)⟩
theorem Dx.of_ext {B:Nat}{S T:List Nat}{w w':World}(h:Ext T w w')(hB:B<=w.heap.size)(hT:∀x,x∈T->x∈S\/B<=x):Dx B S w w':=
 ⟨h.os,h.tape,h.output,h.size,fun k hk hn=>h.block k (by omega) (fun hx=>by rcases hT k hx with h1|h1;exact hn h1;omega)⟩
theorem Dx.ext {S:List Nat}{w w':World}(h:Dx w.heap.size S w w'):Ext S w w':=⟨h.os,h.tape,h.output,h.size,h.block⟩
theorem Dx.mono {B C:Nat}{S:List Nat}{w w':World}(h:Dx B S w w')(hC:C<=B):Dx C S w w':=⟨h.os,h.tape,h.output,h.size,fun k hk hn=>h.block k (by omega) hn⟩
theorem Dx.drew {B:Nat}{S:List Nat}{a w:World}(h:Dx B S a w):Dx B S a w.drew:=⟨h.os,h.tape,h.output,h.size,h.block⟩
theorem Dx.alloc {B:Nat}{S:List Nat}{a w:World}(h:Dx B S a w)(hB:B<=w.heap.size)(o:Obj):Dx B S a (w.alloc o):=
 h.trans (Dx.of_ext (T:=[]) (er.alloc o) hB (by simp))
theorem Dx.setCell {B:Nat}{S:List Nat}{a w:World}(h:Dx B S a w){p:Addr}(hp:p.block∈S\/B<=p.block)(u:Value):Dx B S a (w.setCell p u):=
 ⟨h.os,h.tape,h.output,by simpa[World.setCell] using h.size,fun i hi hn=>(Below.heap_setCell w p u i (by
  rintro rfl;rcases hp with hp|hp
  ·exact hn hp
  ·omega)).trans (h.block i hi hn)⟩
theorem Dx.grown {B:Nat}{S:List Nat}{a w w':World}{row:Option Nat}(h:Dx B S a w)(hB:B<=w.heap.size)(hg:w.grownBy w' row)(hr:∀k,row=some k->k∈S\/B<=k):Dx B S a w':=
 ⟨hg.os.trans h.os,hg.tape.trans h.tape,hg.output.trans h.output,nt h.size hg.size,fun i hi hn=>
  (hg.block i (by omega) (fun e=>by rcases hr i e.symm with h1|h1;exact hn h1;omega)).trans (h.block i hi hn)⟩
theorem Kw {w:World}{base g:Nat}{e t:TypeId}{size n:Nat}{v:Value}{xs:List Value}{cs:Array Value}(h:w.ownsRow base e size v n xs)(hg:Blk w g t cs)(hne:e≠t):v.ownBlock≠some g:=by
 rcases h.2 with⟨rfl,_⟩|⟨g',cap,cur,rfl,_,hh,_⟩
 ·simp[Value.ownBlock]
 ·intro he;have:g'=g:=by simpa[Value.ownBlock] using he
  subst this;unfold Blk at hg;rw[hh] at hg;injection hg with hg;injection hg with _ ht;exact hne ht
theorem Blk.grown {w w':World}{g:Nat}{t:TypeId}{cs:Array Value}{row:Option Nat}(h:Blk w g t cs)(hb:w.grownBy w' row)(hg:row≠some g):Blk w' g t cs:=(hb.block g h.lt (fun e=>hg e.symm)).trans h
structure CM where
 m0:Int
 m1:Int
 m2:Int
 m3:Int
 m4:Int
 s:Int
def As (g:Nat)(cm:CM)(v:Value):Array Value:=
 #[.pointer (some g),.int .i64 cm.m0,.int .i64 cm.m1,.int .i64 cm.m2,.int .i64 cm.m3,.int .i64 cm.m4,v,.int .i64 cm.s]
structure Ff (w:World)(base bc g gc n c:Nat)(cm:CM)(v:Value)(l:List Ins):Prop where
 stm:Stm w base g n
 blk:Blk w gc 104 (As g cm v)
 own:w.ownsRow bc 76 9 v l.length (codeCells l)
 room:l.length+c<=100000000
 gb:g<bc
 bb:bc<=gc
 bas:base<=bc
 lan:cm.m3<=8
 que:cm.m4<=4
 set:cm.s<=16
def Cdr (w:World)(base bc g gc n c:Nat)(cm:CM):Prop:=∃v l,Ff w base bc g gc n c cm v l
theorem An {S:List Nat}{w w':World}{base:Nat}{e:TypeId}{size n:Nat}{v:Value}{xs:List Value}(h:w.ownsRow base e size v n xs)(hE:Ext S w w')(hS:∀k,v.ownBlock=some k->k∉S):w'.ownsRow base e size v n xs:=by
 refine⟨h.1,?_⟩
 rcases h.2 with hn|⟨g,cap,cur,rfl,hb,hgg,rest⟩
 ·exact .inl hn
 ·refine .inr ⟨g,cap,cur,rfl,hb,?_,rest⟩
  rw[hE.block g (Array.getElem?_eq_some_iff.1 hgg).1 (hS g rfl)];exact hgg
theorem Bf {w:World}{base:Nat}{e:TypeId}{size n:Nat}{v:Value}{xs:List Value}(h:w.ownsRow base e size v n xs):∀k,v.ownBlock=some k->base<=k:=fun k hk=>(h.lt k hk).1
theorem Ff.draw {w w':World}{base bc g gc n n' c:Nat}{cm:CM}{v:Value}{l:List Ins}(h:Ff w base bc g gc n c cm v l)(hE:Ext [g] w w')(hS:Stm w' base g n') :
  Ff w' base bc g gc n' c cm v l:=
 ⟨hS,h.blk.ext hE (by have:=h.gb;have:=h.bb;simp;omega),An h.own hE (fun k hk=>by have:=Bf h.own k hk;have:=h.gb;simp;omega),h.room,h.gb,h.bb,h.bas,h.lan,h.que,h.set⟩
theorem Cdr.draw {w w':World}{base bc g gc n n' c:Nat}{cm:CM}(h:Cdr w base bc g gc n c cm)(hE:Ext [g] w w')(hS:Stm w' base g n'):Cdr w' base bc g gc n' c cm:=by
 obtain⟨v,l,h⟩:=h;exact⟨v,l,h.draw hE hS⟩
theorem Ff.less {w:World}{base bc g gc n n' c c':Nat}{cm:CM}{v:Value}{l:List Ins}(h:Ff w base bc g gc n c cm v l)(hn:n'<=n)(hc:c'<=c) :
  Ff w base bc g gc n' c' cm v l:=
 ⟨h.stm.less hn,h.blk,h.own,by have:=h.room;omega,h.gb,h.bb,h.bas,h.lan,h.que,h.set⟩
theorem Cdr.less {w:World}{base bc g gc n n' c c':Nat}{cm:CM}(h:Cdr w base bc g gc n c cm)(hn:n'<=n)(hc:c'<=c):Cdr w base bc g gc n' c' cm:=by
 obtain⟨v,l,h⟩:=h;exact⟨v,l,h.less hn hc⟩
theorem Cdr.stm {w:World}{base bc g gc n c:Nat}{cm:CM}(h:Cdr w base bc g gc n c cm):Stm w base g n:=by
 obtain⟨v,l,h⟩:=h;exact h.stm
theorem Lp:(prog.info? 76).map (fun i=>(i.zero,i.size,i.bytes))=some (some (.agg #[(0:Int),(0:Int),(0:Int),(0:Int),(0:Int),(0:Int),(0:Int),(0:Int),(0:Int)]),9,72):=by kernel_rfl
theorem Agb {base bc g gc n c g2 cap2:Nat}{cm:CM}{v:Value}{l:List Ins}{w w1 w2:World}(h:Ff w base bc g gc n (c+1) cm v l)(x:Ins)(hE:Ext [] w w1)
  (ho:w2.ownsRow bc 76 9 (.slice (some g2) (l.length+1) cap2) (l.length+1) (codeCells l ++ x.cells)) (hg:w1.grownBy w2 v.ownBlock)
  (hB:Blk w2 gc 104 (As g cm v)) :
  Dx bc [g] w (w2.setCell ⟨gc,6,none⟩ (.slice (some g2) (l.length+1) cap2))/\Cdr (w2.setCell ⟨gc,6,none⟩ (.slice (some g2) (l.length+1) cap2)) base bc g gc n c cm:=by
 have hbs:bc<=w.heap.size:=by have:=h.blk.lt;have:=h.bb;omega
 have hw1:Dx bc [g] w w1:=Dx.of_ext hE hbs (by simp);have hrow:∀k,v.ownBlock=some k->bc<=k:=Bf h.own;have hw2:Dx bc [g] w w2:=hw1.grown (by have:=hE.size;omega) hg (fun k hk=>.inr (hrow k hk));refine⟨hw2.setCell (.inr h.bb) _,.slice (some g2) (l.length+1) cap2,l ++ [x],?_,?_,?_,?_,h.gb,h.bb,h.bas,h.lan,h.que,h.set⟩
 ·have hs1:Stm w1 base g n:=h.stm.ext hE (by simp) (by simp)
  have hs2:Stm w2 base g n:=hs1.ext (S:=v.ownBlock.toList) (er.grown hg (fun k hk=>.inl (by simp[hk]))) (by
   intro hm;have:=hrow g (by simpa using hm);have:=h.gb;omega) (by
   intro k hk;have:=hrow k (by simpa using hk);have:=h.bas;omega)
  exact hs2.setCell (by have:=h.gb;have:=h.bb;simp;omega) (by have:=h.bas;have:=h.bb;simp;omega) _
 ·exact hB.set_' 6 _ _ rfl
 ·rw[Qq,List.length_append];exact ownsRow_setCell_other ho (Kw ho hB (by decide)) _
 ·have:=h.room;simp;omega
theorem Eh (base bc g gc n c:Nat)(cm:CM)(x:Ins)(w:World)(h:Cdr w base bc g gc n (c+1) cm) :
  Calls prog 55 #[.pointer (some gc),.agg x.cells.toArray] w fun e w'=>e=.returned (.tuple #[])/\Dx bc [g] w w'/\Cdr w' base bc g gc n c cm:=by
 obtain⟨v,l,h⟩:=h;obtain⟨i0,hi0,hz0,hz1,hz2⟩:=info_parts Lp;obtain⟨hc,hf⟩:=h.blk.both;have hlt:=h.blk.lt;have HH:=hd h;obtain⟨x0,x1,x2,x3,x4,x5,x6,x7,x8⟩:=x;simp only[Ins.cells,As] at hc⊢;go_enter func55,ntmps55
 go_wp2_with fail
 go_region_law (
  refine step_append_lies _ rfl (.tmp 8) (.tmp 10) 28 rfl bc 76 i0 _ 9 72 underlying28 hi0 hz0 hz1 hz2 rfl (by omega) v l.length (codeCells l) rfl ?_ ⟨w.heap.size+1,0,none⟩ 1 1 (Ins.cells ⟨x0,x1,x2,x3,x4,x5,x6,x7,x8⟩) rfl rfl ?_ ?_ (by omega) ?_ ?_ ?_ _ rfl ?_
  ·refine An HH.o.own (S:=[]) ?_ (by simp)
   repeat(first|exact er|apply Ext.alloc|apply Ext.drew|apply Ext.drewN)
  ·exact World.news_of_block (Blk.new' _ _ _ _ (by simp))
  ·intro u hu;simp[Ins.cells] at hu;rcases hu with rfl|rfl|rfl|rfl|rfl|rfl|rfl|rfl|rfl<;>rfl
  ·have:=HH.o.room;unfold maxLen;omega
  ·have:=HH.o.room;omega
  ·have:=HH.o.bb;simp;omega
  intro g2 cap2 w2 ho hg ha hz;have hB2:=Blk.grown (by repeat(first|exact HH.o.blk|apply Blk.alloc|apply Blk.drew|apply Blk.drewN)) hg (Kw HH.o.own HH.o.blk (by decide));obtain⟨hc2,hf2⟩:=hB2.both;simp only[As] at hc2;have HX:=hd (And.intro ho (And.intro hg (And.intro ha hB2)));clear ho hg ha hB2)
 all_goals
  go_wp2
  go_end0
  obtain⟨ho,hg,ha,hB2⟩:=HX.o;exact⟨rfl,Agb HH.o _ (by repeat(first|exact er|apply Ext.alloc|apply Ext.drew|apply Ext.drewN)) ho hg hB2⟩
section
def JS (base g n:Nat)(w0:World)(k:Nat)(w:World):Prop:=Ext [g] w0 w/\Stm w base g (n+3*k)
theorem JS.less {base g n:Nat}{w0:World}(k:Nat)(w:World)(h:JS base g n w0 (k+1) w):JS base g n w0 k w:=⟨h.1,h.2.less (by omega)⟩
theorem JS.start {base g n:Nat}{w0:World}{p:Nat}(h:Stm w0 base g (n+3*p)):JS base g n w0 p w0.drew:=⟨er.drew,h⟩
theorem JS.step {base g n:Nat}{w0 w w':World}{k m:Nat}(h:JS base g n w0 (k+1) w)(hE:Ext [g] w w')(hS:Stm w' base g m)(hm:n+3*k<=m):JS base g n w0 k w':=⟨h.1.trans hE,hS.less hm⟩
theorem JS.stm {base g n:Nat}{w0 w:World}{k:Nat}(h:JS base g n w0 (k+1) w):Stm w base g (n+3*k+3):=h.2.less (by omega)
def Dt:Bo:=⟨Int,0,Value.int .i64,fun _ _=>True⟩
def Ik:Bo:=⟨Bool,false,Value.bool,fun _ _=>True⟩
def Ef (m:Int):Bo:=⟨Int,0,Value.int .i64,fun r _=>0<=r/\r<m⟩
def Fr (n:Nat)(g:Nat):Bo:=⟨Nat,0,fun b=>.slice (some ⟨b,0,none⟩) n n,fun b w=>∃xs:List Int,xs.length=n/\Blk w b 3 (Db xs)/\b≠g⟩
def Jt (t:TypeId)(cs:Array Value)(g lo:Nat):Bo:=⟨Nat,0,fun b=>.pointer (some ⟨b,0,none⟩),fun b w=>Blk w b t cs/\b≠g/\lo<=b⟩
def Kx:Bo:=⟨Ins,⟨0,0,0,0,0,0,0,0,0⟩,fun x=>.agg x.cells.toArray,fun _ _=>True⟩
def Ah (S:Nat->Option Bo)(R:World->World->Prop):Prop:=∀i s,S i=some s->∀x w w',R w w'->s.V x w->s.V x w'
def Bw (l:List (Nat×Bo))(i:Nat):Option Bo:=(l.find? fun x=>x.1==i).map (·.2)
theorem Ah.nil {R:World->World->Prop}:Ah (Bw []) R:=by
 intro i s hs;simp[Bw] at hs
theorem Ah.cons {j:Nat}{t:Bo}{l:List (Nat×Bo)}{R:World->World->Prop}(ht:∀y w w',R w w'->t.V y w->t.V y w')(h:Ah (Bw l) R):Ah (Bw ((j,t) :: l)) R:=by
 intro i s hs;by_cases hj:j=i
 ·subst hj;simp[Bw] at hs;subst hs;exact ht
 ·refine h i s ?_
  simp only[Bw,List.find?_cons] at hs⊢;have:(j==i)=false:=by simpa using hj
  rw[this] at hs;exact hs
def Gs (n:Nat)(g:Nat):Bo:=⟨Nat,0,fun b=>.slice (some ⟨b,0,none⟩) n n,fun b w=>∃xs:List Ins,xs.length=n/\Blk w b 76 (codeCells xs).toArray/\b≠g⟩
theorem Gs.stays {n g:Nat}:∀y w w',Ext [g] w w'->(Gs n g).V y w->(Gs n g).V y w':=fun _ _ _ hE ⟨xs,h1,h2,h3⟩=>⟨xs,h1,h2.ext hE (fun hm=>h3 (ms hm)),h3⟩
def Ju (g:Nat):Bo:=⟨Nat×Nat,(0,0),fun p=>.pointer (some ⟨p.1,p.2,none⟩),fun p w=>(∃x:Ins,∀i u,x.cells[i]? = some u->w.cell? ⟨p.1,p.2+i,none⟩=some u)/\p.1≠g⟩
theorem Ju.stays {g:Nat}:∀y w w',Ext [g] w w'->(Ju g).V y w->(Ju g).V y w':=fun _ _ _ hE ⟨⟨x,h1⟩,h2⟩=>⟨⟨x,fun i u hu=>hE.held (h1 i u hu) (fun hm=>h2 (ms hm))⟩,h2⟩
theorem Dt.stays {R:World->World->Prop}:∀y w w',R w w'->Dt.V y w->Dt.V y w':=fun _ _ _ _ h=>h
theorem Ik.stays {R:World->World->Prop}:∀y w w',R w w'->Ik.V y w->Ik.V y w':=fun _ _ _ _ h=>h
theorem Ef.stays {m:Int}{R:World->World->Prop}:∀y w w',R w w'->(Ef m).V y w->(Ef m).V y w':=fun _ _ _ _ h=>h
theorem Fr.stays {n g:Nat}:∀y w w',Ext [g] w w'->(Fr n g).V y w->(Fr n g).V y w':=fun _ _ _ hE ⟨xs,h1,h2,h3⟩=>⟨xs,h1,h2.ext hE (fun hm=>h3 (ms hm)),h3⟩
theorem Jt.stays {t:TypeId}{cs:Array Value}{g lo:Nat}:∀y w w',Ext [g] w w'->(Jt t cs g lo).V y w->(Jt t cs g lo).V y w':=fun _ _ _ hE ⟨h1,h2,h3⟩=>⟨h1.ext hE (fun hm=>h2 (ms hm)),h2,h3⟩
theorem Kx.stays {R:World->World->Prop}:∀y w w',R w w'->Kx.V y w->Kx.V y w':=fun _ _ _ _ h=>h
def zI:Ins:=⟨0,0,0,0,0,0,0,0,0⟩
def Ins.set (x:Ins):Nat->Int->Ins
 | 0,v=>{x with op:=v }
 | 1,v=>{x with k:=v }
 | 2,v=>{x with d:=v }
 | 3,v=>{x with a:=v }
 | 4,v=>{x with b:=v }
 | 5,v=>{x with c:=v }
 | 6,v=>{x with p:=v }
 | 7,v=>{x with n:=v }
 | _,v=>{x with m:=v }
theorem Ins.set_cells (x:Ins)(i:Nat)(v:Int)(hi:i<9):(x.set i v).cells.toArray=x.cells.toArray.setIfInBounds i (.int .i64 v):=by
 match i,hi with
 | 0,_|1,_|2,_|3,_|4,_|5,_|6,_|7,_|8,_=>rfl
def IB (w:World)(b:Nat)(x:Ins):Prop:=Blk w b 76 x.cells.toArray
theorem IB.set {w:World}{b:Nat}{x:Ins}(h:IB w b x)(i:Nat)(v:Int)(hi:i<9):IB (w.setCell ⟨b,i,none⟩ v) b (x.set i v):=by
 unfold IB;rw[Ins.set_cells x i v hi];exact Blk.set_ h i _
theorem IB.cells {w:World}{b:Nat}{x:Ins}(h:IB w b x):(∀i,w.cell? ⟨b,i,none⟩=#[Value.int .i64 x.op,.int .i64 x.k,.int .i64 x.d,.int .i64 x.a,.int .i64 x.b,.int .i64 x.c,.int .i64 x.p,.int .i64 x.n,.int .i64 x.m][i]?)/\(∀i,w.frozen? ⟨b,i,none⟩=false):=Blk.both h
theorem IB.all {w:World}{b:Nat}{x:Ins}(h:IB w b x)(y0 y1 y2 y3 y4 y5 y6 y7 y8:Int) :
  IB (((((((((w.setCell ⟨b,0,none⟩ y0).setCell ⟨b,1,none⟩ y1).setCell ⟨b,2,none⟩ y2).setCell ⟨b,3,none⟩ y3).setCell ⟨b,4,none⟩ y4).setCell ⟨b,5,none⟩ y5).setCell ⟨b,6,none⟩ y6).setCell ⟨b,7,none⟩ y7).setCell ⟨b,8,none⟩ y8) b ⟨y0,y1,y2,y3,y4,y5,y6,y7,y8⟩:=
 ((((((((h.set 0 y0 (by omega)).set 1 y1 (by omega)).set 2 y2 (by omega)).set 3 y3 (by omega)).set 4 y4 (by omega)).set 5 y5 (by omega)).set 6 y6 (by omega)).set 7 y7 (by omega)).set 8 y8 (by omega)
theorem Wi {fn:Func}{p:Tmp}(h:fn.results=#[.cell p 76])(tmps:Array Value)(w:World)(g:Nat)(x:Ins)
  (hp:tmps.getD p undef=.pointer (some g)) (hg:IB w g x):(results fn tmps).run prog w=.ok (.agg x.cells.toArray) w:=
 results_cell_row h tmps w g _ x.cells.toArray (0,0) _ hp hg underlying76 rfl (by kernel_rfl)
structure Mr (base g n b:Nat)(w wx:World)(x:Ins):Prop where
 ext:Ext [g] w wx
 stm:Stm wx base g n
 ins:IB wx b x
 bg:b≠g
 bas:base<=b
 new:w.heap.size<=b
theorem Mr.set {base g n b:Nat}{w wx:World}{x:Ins}(h:Mr base g n b w wx x)(i:Nat)(v:Int)(hi:i<9):Mr base g n b w (wx.setCell ⟨b,i,none⟩ v) (x.set i v):=
 ⟨h.ext.setCell (.inr h.new) _,h.stm.setCell (fun e=>h.bg e.symm) h.bas _,h.ins.set i v hi,h.bg,h.bas,h.new⟩
theorem Mr.draw {base g n m b:Nat}{w wx wy:World}{x:Ins}(h:Mr base g n b w wx x)(hE:Ext [g] wx wy)(hS:Stm wy base g m):Mr base g m b w wy x:=
 ⟨h.ext.trans hE,hS,Blk.ext h.ins hE (fun hm=>h.bg (ms hm)),h.bg,h.bas,h.new⟩
theorem Mr.alloc {base g n b:Nat}{w wx:World}{x:Ins}(h:Mr base g n b w wx x)(o:Obj):Mr base g n b w (wx.alloc o) x:=h.draw (er.alloc o) (h.stm.alloc o)
theorem Mr.less {base g n m b:Nat}{w wx:World}{x:Ins}(h:Mr base g n b w wx x)(hm:m<=n):Mr base g m b w wx x:=⟨h.ext,h.stm.less hm,h.ins,h.bg,h.bas,h.new⟩
theorem Ff.cells {w:World}{base bc g gc n c:Nat}{cm:CM}{v:Value}{l:List Ins}(h:Ff w base bc g gc n c cm v l):∀w',Ext [g] w w'->∀i,w'.cell? ⟨gc,i,none⟩=(As g cm v)[i]?:=
 fun _ hE=>(h.blk.ext hE (by have:=h.gb;have:=h.bb;simp;omega)).cell
theorem Ll.less {base g n m:Nat}{w:World}{R R':Int->Prop}(hn:m<=n)(hR:∀r,R r->R' r):∀e w',Ll base g n w R e w'->Ll base g m w R' e w':=
 fun _ _ ⟨r,he,h1,h2,h3⟩=>⟨r,he,hR r h1,h2,h3.less hn⟩
section
variable {P:Program} {ops:Array Oper} {S:Nat->Option Bo} {Q:Act->World->Prop} {k:Nat} {o:Oper} {rest:List Oper} {a:Act} {F:Nat->World->Prop} {base g n:Nat} {w0:World}
theorem Ca (hS:S k=some Dt)(hw:Region.wanted o (yielded ops a.tmps)=true)
  (hh:∃(f:FuncId) (args:Array Value),(∀w,(execOp a.eval o).run P w=.ok (.enter f args) w)/\
   ∀w n',Stm w base g (n+3*n'+3)->Ext [g] w0 w->∃m R',n+3*n'<=m/\Calls P f args w (Ll base g m w R'))
  (h:∀x:Int,Ax P ops (JS base g n w0) (Ext [g]) S Q (k+1) rest (a.put o.dst (.int .i64 x)) (upd F k (fun _=>True))):Ax P ops (JS base g n w0) (Ext [g]) S Q k (o :: rest) a F:=by
 obtain⟨f,args,hr,hu⟩:=hh;refine Ey Dt hS hw ⟨f,args,hr,fun w n' hJ _=>?_⟩ h
 obtain⟨m,R',hm,hc⟩:=hu w n' hJ.stm hJ.1;refine hc.mono ?_
 rintro e w' ⟨r,rfl,_,hE,hS'⟩;exact⟨r,rfl,trivial,hJ.step hE hS' hm,hE⟩
theorem Nt (m:Nat)(xs:List Int)(hS:S k=some (Fr m g))(hw:Region.wanted o (yielded ops a.tmps)=true)(hm:xs.length=m)
  (hh:∀w,(execOp a.eval o).run P w=.ok (.value (.slice (some w.heap.size) m m)) (w.alloc (.cells (Db xs) 3)))
  (h:∀b:Nat,Ax P ops (JS base g n w0) (Ext [g]) S Q (k+1) rest (a.put o.dst (.slice (some b) m m)) (upd F k ((Fr m g).V b))):Ax P ops (JS base g n w0) (Ext [g]) S Q k (o :: rest) a F:=by
 refine Dh (Fr m g) hS hw (fun w n' hJ _=>?_) h
 have hE:Ext [g] w (w.alloc (.cells (Db xs) 3)):=er.alloc _;have hgw:=hJ.2.lt;refine⟨w.heap.size,_,hh w,⟨xs,hm,Blk.new _ _ _,by omega⟩,hJ.step hE (hJ.2.alloc _) (by omega),hE⟩
theorem Nu (j b m:Nat)(hS:S k=some Dt)(hw:Region.wanted o (yielded ops a.tmps)=true)(hj:o.after.any (fun e=>Region.binds .any e&&e.on==j)=true)(hF:F j=(Fr m g).V b)(hm:0<m/\m<=1000)
  (hh:∀w,(execOp a.eval o).run prog w=.ok (.enter 22 #[.pointer (some g),.slice (some b) m m]) w)
  (h:∀x:Int,Ax prog ops (JS base g n w0) (Ext [g]) S Q (k+1) rest (a.put o.dst (.int .i64 x)) (upd F k (fun _=>True))):Ax prog ops (JS base g n w0) (Ext [g]) S Q k (o :: rest) a F:=by
 refine Ey Dt hS hw ⟨_,_,hh,fun w n' hJ hf=>?_⟩ h
 obtain⟨e,he,hb⟩:=Array.any_eq_true'.1 hj;simp only[Bool.and_eq_true,beq_iff_eq] at hb;have hv:=hf e he hb.1;rw[hb.2,hF] at hv;obtain⟨xs,hx,hB,hbg⟩:=hv;have hp:=Cn base g (n+3*n'+2) b m 3 xs w hJ.stm hB hbg (by omega);rw[hx] at hp;refine hp.mono ?_
 rintro e w' ⟨r,rfl,_,hE,hS'⟩;exact⟨r,rfl,trivial,hJ.step hE hS' (by omega),hE⟩
theorem Ts (m:Int)(hm:1<=m)(hS:S k=some (Ef m))(hw:Region.wanted o (yielded ops a.tmps)=true)
  (hh:∃(f:FuncId) (args:Array Value),(∀w,(execOp a.eval o).run P w=.ok (.enter f args) w)/\
   ∀w n',Stm w base g (n+3*n'+3)->Ext [g] w0 w->∃q,n+3*n'<=q/\Calls P f args w (Ll base g q w fun r=>0<=r/\(1<=m->r<m)))
  (h:∀x:Int,Ax P ops (JS base g n w0) (Ext [g]) S Q (k+1) rest (a.put o.dst (.int .i64 x)) (upd F k ((Ef m).V x))):Ax P ops (JS base g n w0) (Ext [g]) S Q k (o :: rest) a F:=by
 obtain⟨f,args,hr,hu⟩:=hh;refine Ey (Ef m) hS hw ⟨f,args,hr,fun w n' hJ _=>?_⟩ h
 obtain⟨q,hq,hc⟩:=hu w n' hJ.stm hJ.1;refine hc.mono ?_
 rintro e w' ⟨r,rfl,hr,hE,hS'⟩;exact⟨r,rfl,⟨hr.1,hr.2 hm⟩,hJ.step hE hS' hq,hE⟩
theorem Aef (m:Nat)(xs:List Ins)(hS:S k=some (Gs m g))(hw:Region.wanted o (yielded ops a.tmps)=true)(hm:xs.length=m)
  (hh:∀w,(execOp a.eval o).run P w=.ok (.value (.slice (some w.heap.size) m m)) (w.alloc (.cells (codeCells xs).toArray 76)))
  (h:∀b:Nat,Ax P ops (JS base g n w0) (Ext [g]) S Q (k+1) rest (a.put o.dst (.slice (some b) m m)) (upd F k ((Gs m g).V b))):Ax P ops (JS base g n w0) (Ext [g]) S Q k (o :: rest) a F:=by
 refine Dh (Gs m g) hS hw (fun w n' hJ _=>?_) h
 have hE:Ext [g] w (w.alloc (.cells (codeCells xs).toArray 76)):=er.alloc _;have hgw:=hJ.2.lt;refine⟨w.heap.size,_,hh w,⟨xs,hm,Blk.new _ _ _,by omega⟩,hJ.step hE (hJ.2.alloc _) (by omega),hE⟩
theorem Da (xs:List Ins)(i:Nat)(x:Ins)(hx:xs[i]? = some x)(j:Nat)(u:Value)(hu:x.cells[j]? = some u):(codeCells xs)[i*9+j]? = some u:=by
 have hj:j<9:=by have:=(ils hu).1;simpa[Ins.cells] using this
 induction xs generalizing i with
 | nil=>simp at hx
 | cons y ys ih=>
  have hcons:codeCells (y :: ys)=y.cells ++ codeCells ys:=by simp[codeCells]
  rw[hcons];cases i with
  | zero=>
   simp at hx;subst hx;rw[List.getElem?_append_left (by simp[Ins.cells];omega)];simpa using hu
  | succ i=>
   rw[List.getElem?_append_right (by simp[Ins.cells];omega)];have:(i+1)*9+j-y.cells.length=i*9+j:=by simp[Ins.cells];omega
   rw[this];exact ih i (by simpa using hx)
theorem Agc (j jr b m:Nat)(r:Int)(hS:S k=some (Ju g))(hw:Region.wanted o (yielded ops a.tmps)=true)(hj:o.after.any (fun e=>Region.binds .any e&&e.on==j)=true)(hF:F j=(Gs m g).V b)
  (hjr:o.after.any (fun e=>Region.binds .any e&&e.on==jr)=true) (hFr:F jr=(Ef m).V r)
  (hh:∀w,0<=r->r<m->(execOp a.eval o).run P w=.ok (.value (.pointer (some ⟨b,r.toNat*9,none⟩))) w)
  (h:∀p:Nat×Nat,Ax P ops (JS base g n w0) (Ext [g]) S Q (k+1) rest (a.put o.dst (.pointer (some ⟨p.1,p.2,none⟩))) (upd F k ((Ju g).V p))):Ax P ops (JS base g n w0) (Ext [g]) S Q k (o :: rest) a F:=by
 refine Dh (Ju g) hS hw (fun w n' hJ hf=>?_) h
 obtain⟨e,he,hb⟩:=Array.any_eq_true'.1 hj;simp only[Bool.and_eq_true,beq_iff_eq] at hb;have hv:=hf e he hb.1;rw[hb.2,hF] at hv;obtain⟨e',he',hb'⟩:=Array.any_eq_true'.1 hjr;simp only[Bool.and_eq_true,beq_iff_eq] at hb';have hvr:=hf e' he' hb'.1;rw[hb'.2,hFr] at hvr;obtain⟨xs,hx,hB,hbg⟩:=hv;obtain⟨r0,r1⟩:=hvr;have hlt:r.toNat<xs.length:=by omega
 refine⟨(b,r.toNat*9),w,hh w r0 r1,⟨⟨xs[r.toNat],fun i u hu=>?_⟩,hbg⟩,JS.less _ _ hJ,er⟩
 rw[hB.cell];simpa using Da xs r.toNat _ (List.getElem?_eq_getElem hlt) i u hu
theorem Agd (j:Nat)(p:Nat×Nat)(hS:S k=some Kx)(hw:Region.wanted o (yielded ops a.tmps)=true)(hj:o.after.any (fun e=>Region.binds .any e&&e.on==j)=true)(hF:F j=(Ju g).V p)
  (hh:∀w (x:Ins),(∀i u,x.cells[i]? = some u->w.cell? ⟨p.1,p.2+i,none⟩=some u)->(execOp a.eval o).run P w=.ok (.value (.agg x.cells.toArray)) w)
  (h:∀x:Ins,Ax P ops (JS base g n w0) (Ext [g]) S Q (k+1) rest (a.put o.dst (.agg x.cells.toArray)) (upd F k (fun _=>True))):Ax P ops (JS base g n w0) (Ext [g]) S Q k (o :: rest) a F:=by
 refine Dh Kx hS hw (fun w n' hJ hf=>?_) h
 obtain⟨e,he,hb⟩:=Array.any_eq_true'.1 hj;simp only[Bool.and_eq_true,beq_iff_eq] at hb;have hv:=hf e he hb.1;rw[hb.2,hF] at hv;obtain⟨⟨x,hx⟩,_⟩:=hv;exact⟨x,w,hh w x hx,trivial,JS.less _ _ hJ,er⟩
theorem Age (t:TypeId)(cs:Array Value)(lo:Nat)(hS:S k=some (Jt t cs g lo))(hlo:lo<=w0.heap.size)(hw:Region.wanted o (yielded ops a.tmps)=true)
  (hh:∀w,(execOp a.eval o).run P w=.ok (.value (.pointer (some w.heap.size))) (w.alloc (.cells cs t)))
  (h:∀b:Nat,Ax P ops (JS base g n w0) (Ext [g]) S Q (k+1) rest (a.put o.dst (.pointer (some b))) (upd F k ((Jt t cs g lo).V b))):Ax P ops (JS base g n w0) (Ext [g]) S Q k (o :: rest) a F:=by
 refine Dh (Jt t cs g lo) hS hw (fun w n' hJ _=>?_) h
 have hE:Ext [g] w (w.alloc (.cells cs t)):=er.alloc _;have hgw:=hJ.2.lt;exact⟨w.heap.size,_,hh w,⟨Blk.new _ _ _,by omega,by have:=hJ.1.size;omega⟩,hJ.step hE (hJ.2.alloc _) (by omega),hE⟩
end
end
def RdI (w:World)(A:Option Addr)(xs:List Int):Prop:=xs=[]\/∃b o,A=some ⟨b,o,none⟩/\∀i x,xs[i]? = some x->w.cell? ⟨b,o+i,none⟩=some (.int .i64 x)
theorem RdI.ext {S:List Nat}{w w':World}{A:Option Addr}{xs:List Int}(h:RdI w A xs)(hE:Ext S w w')(hS:∀a,A=some a->a.block∉S):RdI w' A xs:=by
 rcases h with h|⟨b,o,rfl,h⟩
 ·exact .inl h
 ·exact .inr ⟨b,o,rfl,fun i x hx=>hE.held (h i x hx) (show b∉S from hS ⟨b,o,none⟩ rfl)⟩
theorem RdI.new (w:World)(t:TypeId)(xs:List Int):RdI (w.alloc (.cells (Db xs) t)) (some w.heap.size) xs:=by
 refine .inr ⟨_,0,rfl,fun i x hx=>?_⟩
 rw[Nat.zero_add,(Blk.new w t (Db xs)).cell];simp[Db,hx]
theorem Ach (A:Option Addr)(cap:Nat)(xs:List Int)(x:Int)(w:World)(h:RdI w A xs)(hl:xs.length<=9223372036854775807) :
  Calls prog 121 #[.slice A xs.length cap,x] w fun e w'=>(∃r:Int,e=.returned (.int .i64 r)/\(0<=r ↔ x∈xs))/\w=w':=by
 have HH:=hd h;clear h;go_enter func121,ntmps121
 go_wp2
 go_loop [8] (fun i=>∃k:Nat,k<=xs.length/\i=.int .i64 k/\Hd (∀j y,j<k->xs[j]? = some y->y≠x)) (fun i=>xs.length-(intOf i).toNat)
 case atStart=>exact⟨0,Nat.zero_le _,rfl,hd fun j y hj=>absurd hj (by omega)⟩
 case round=>
  obtain⟨k,hk,rfl,hn⟩:=hrel;by_cases hlt:k<xs.length
  ·rcases HH.o with h0|⟨b,o,rfl,hc⟩
   ·simp[h0] at hlt
   ·have hx:=List.getElem?_eq_getElem hlt;have hck:=hc k _ hx;have HX:=hd hx;generalize xs[k]=y at hck HX;clear hc hx;by_cases hyx:x=y
    ·have hb:(x==y)=true:=by simpa using hyx
     have HY:=hd hyx;clear hyx;go_wp2
     go_ret
     exact⟨⟨_,rfl,by constructor;(intro _;rw[HY.o];exact ilm HX.o);(intro _;omega)⟩,rfl⟩
    ·have hb:(x==y)=false:=by simpa using hyx
     have HY:=hd hyx;clear hyx;go_wp2
     go_round
     case rel=>
      refine⟨k+1,by omega,by go_num,hd fun j z hj hz=>?_⟩
      rcases Nat.lt_or_ge j k with h1|h1
      ·exact hn.o j z h1 hz
      ·have:j=k:=by omega
       subst this;rw[HX.o] at hz;cases hz
       exact fun e=>HY.o e.symm
     case measure=>simp[intOf];omega
  ·go_wp2
   go_ret
   refine⟨⟨_,rfl,?_⟩,rfl⟩
   constructor
   ·intro h0;omega
   ·intro hm;obtain⟨i,hi⟩:=List.getElem?_of_mem hm;have hil:=(ils hi).1;exact absurd rfl (hn.o i x (by omega) hi)
theorem Ny (A:Option Addr)(cap:Nat)(xs:List Int)(x:Int)(w:World)(h:RdI w A xs)(hl:xs.length<=9223372036854775807) :
  Calls prog 99 #[.slice A xs.length cap,x] w fun e w'=>e=.returned (.bool (decide (x∈xs)))/\w=w':=by
 go_enter func99,ntmps99
 go_wp2_with fail
 refine(Ach A cap xs x w h hl).mono ?_
 rintro e w' ⟨⟨r,rfl,hr⟩,rfl⟩;have HR:=hd hr;clear hr;go_wp2_with fail
 go_ret
 exact⟨Ay (by rw[Bool.eq_iff_iff];simp only[decide_eq_true_eq];exact HR.o),rfl⟩
end Go.Proofs.YtkgmhggliifkjaaGreat
