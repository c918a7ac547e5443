import Derived.Test.YtfjdmoppfbddpaaGreatDoorRows
import Derived.WalkKit
import Derived.WalkSpells
import Derived.WalkLawsBesides
import Derived.KernelRfl
import Derived.Lib.Hide
import Derived.Deep.Draws
import Derived.Deep.QuietTactic
import Derived.BigQuiet
import Derived.Deep.Quiet
namespace Go.Proofs.YtfjdmoppfbddpaaGreatDoor
open Go.RowKit Go.Proofs.Tryz
set_option linter.all false
section
structure Ext (S:List Nat)(w w':World):Prop where
 os:w'.os=w.os
 tape:w'.tape=w.tape
 output:w'.output=w.output
 size:w.heap.size<=w'.heap.size
 block:∀k,k<w.heap.size->k∉S->w'.heap[k]? = w.heap[k]?
theorem Ext.refl (S:List Nat)(w:World):Ext S w w:=⟨rfl,rfl,rfl,Nat.le_refl _,fun _ _ _=>rfl⟩
theorem Ext.step {S T:List Nat}{a b c:World}(h:Ext S a b)(k:Ext T b c)(hT:∀x,x∈T->x∈S\/a.heap.size<=x):Ext S a c:=
 ⟨k.os.trans h.os,k.tape.trans h.tape,k.output.trans h.output,Nat.le_trans h.size k.size,fun i hi hn=>
  (k.block i (Nat.lt_of_lt_of_le hi h.size) (fun hx=>by rcases hT i hx with h1|h1;exact hn h1;omega)).trans (h.block i hi hn)⟩
theorem Ext.trans {S:List Nat}{a b c:World}(h:Ext S a b)(k:Ext S b c):Ext S a c:=h.step k fun _ hx=>.inl hx
theorem Ext.mono {S T:List Nat}{a b:World}(h:Ext S a b)(hT:∀x,x∈S->x∈T\/a.heap.size<=x):Ext T a b:=(Ext.refl T a).step h hT
theorem Ext.drew {S:List Nat}{a w:World}(h:Ext S a w):Ext S a w.drew:=⟨h.os,h.tape,h.output,h.size,h.block⟩
theorem Ext.drewN {S:List Nat}{a w:World}(h:Ext S a w)(n:Nat):Ext S a (w.drewN n):=⟨h.os,h.tape,h.output,h.size,h.block⟩
theorem Ext.alloc {S:List Nat}{a w:World}(h:Ext S a w)(o:Obj):Ext S a (w.alloc o):=
 ⟨h.os,h.tape,h.output,Nat.le_trans h.size (by simp),fun i hi hn=>(Below.heap_alloc w o i (Nat.lt_of_lt_of_le hi h.size)).trans (h.block i hi hn)⟩
theorem Ext.setCell {S:List Nat}{a w:World}(h:Ext S a w){p:Addr}(hp:p.block∈S\/a.heap.size<=p.block)(u:Value):Ext S a (w.setCell p u):=
 ⟨h.os,h.tape,h.output,by simpa[World.setCell] using h.size,fun i hi hn=>(Below.heap_setCell w p u i (by
  rintro rfl;rcases hp with hp|hp
  ·exact hn hp
  ·omega)).trans (h.block i hi hn)⟩
theorem Ext.setAt {S:List Nat}{a w:World}{b i:Nat}{u:Value}(hb:b∈S\/a.heap.size<=b)(h:Ext S a w):Ext S a (w.setCell ⟨b,i,none⟩ u):=h.setCell hb u
theorem Ext.grown {S:List Nat}{a w w':World}{row:Option Nat}(h:Ext S a w)(hg:w.grownBy w' row)(hr:∀k,row=some k->k∈S\/a.heap.size<=k):Ext S a w':=
 ⟨hg.os.trans h.os,hg.tape.trans h.tape,hg.output.trans h.output,Nat.le_trans h.size hg.size,fun i hi hn=>
  (hg.block i (Nat.lt_of_lt_of_le hi h.size) (fun e=>by rcases hr i e.symm with h1|h1;exact hn h1;omega)).trans (h.block i hi hn)⟩
theorem Ext.cell {S:List Nat}{w w':World}(h:Ext S w w'){p:Addr}(hp:p.block<w.heap.size)(hn:p.block∉S):w'.cell? p=w.cell? p:=
 World.cell?_of_block (w:=w) (h.block p.block hp hn)
theorem Ext.frozen {S:List Nat}{w w':World}(h:Ext S w w'){p:Addr}(hp:p.block<w.heap.size)(hn:p.block∉S):w'.frozen? p=w.frozen? p:=
 World.frozen?_of_block (w:=w) (h.block p.block hp hn)
theorem Ext.below {w w':World}(h:Ext [] w w'):Below w.heap.size w w':=⟨h.os,h.tape,h.output,h.size,fun k hk=>h.block k hk (by simp)⟩
theorem Ext.of_below {w w':World}(h:Below w.heap.size w w')(S:List Nat):Ext S w w':=⟨h.os,h.tape,h.output,h.size,fun k hk _=>h.block k hk⟩
theorem Ext.nil {S:List Nat}{w w':World}(h:Ext [] w w'):Ext S w w':=h.mono (by simp)
theorem Ext.held {S:List Nat}{w w':World}(h:Ext S w w'){p:Addr}{v:Value}(hp:w.cell? p=some v)(hn:p.block∉S):w'.cell? p=some v:=
 (h.cell (World.block_lt_of_cell? w p hp) hn).trans hp
def Blk (w:World)(g:Nat)(t:TypeId)(cs:Array Value):Prop:=w.heap[g]? = some (.cells cs t (0,0))
section
variable {w w':World} {g:Nat} {t:TypeId} {cs:Array Value}
theorem Blk.lt (h:Blk w g t cs):g<w.heap.size:=by
 rcases Nat.lt_or_ge g w.heap.size with hlt|hge
 ·exact hlt
 ·unfold Blk at h;rw[Array.getElem?_eq_none hge] at h;cases h
theorem Blk.cell (h:Blk w g t cs)(i:Nat):w.cell? ⟨g,i,none⟩=cs[i]?:=cell_of_row w g i cs t (0,0) h
theorem Blk.frozen (h:Blk w g t cs)(i:Nat):w.frozen? ⟨g,i,none⟩=false:=by
 unfold Blk at h;simp[World.frozen?,h]
theorem Blk.both (h:Blk w g t cs):(∀i,w.cell? ⟨g,i,none⟩=cs[i]?)/\(∀i,w.frozen? ⟨g,i,none⟩=false):=⟨h.cell,h.frozen⟩
theorem Blk.new (w:World)(t:TypeId)(cs:Array Value):Blk (w.alloc (.cells cs t)) w.heap.size t cs:=by
 show(w.heap.push _)[w.heap.size]? = _
 simp
theorem Blk.new' (w:World)(t:TypeId)(cs:Array Value)(n:Nat)(hn:n=w.heap.size):Blk (w.alloc (.cells cs t)) n t cs:=by
 subst hn;exact Blk.new w t cs
theorem Blk.drew (h:Blk w g t cs):Blk w.drew g t cs:=h
theorem Blk.drewN (h:Blk w g t cs)(n:Nat):Blk (w.drewN n) g t cs:=h
theorem Blk.alloc (h:Blk w g t cs)(o:Obj):Blk (w.alloc o) g t cs:=(Below.heap_alloc w o g h.lt).trans h
theorem Blk.set_ (h:Blk w g t cs)(i:Nat)(u:Value):Blk (w.setCell ⟨g,i,none⟩ u) g t (cs.setIfInBounds i u):=by
 unfold Blk at h⊢;simp[World.setCell,Array.getElem?_modify,h]
theorem Blk.set_' (h:Blk w g t cs)(i:Nat)(u:Value)(cs':Array Value)(e:cs.setIfInBounds i u=cs'):Blk (w.setCell ⟨g,i,none⟩ u) g t cs':=e ▸ h.set_ i u
theorem Blk.far (h:Blk w g t cs){p:Addr}(hp:g≠p.block)(u:Value):Blk (w.setCell p u) g t cs:=(Below.heap_setCell w p u g hp).trans h
theorem Blk.ext {S:List Nat}(h:Blk w g t cs)(hb:Ext S w w')(hg:g∉S):Blk w' g t cs:=(hb.block g h.lt hg).trans h
end
theorem Blk.all9 {w:World}{b:Nat}{t:TypeId}{x0 x1 x2 x3 x4 x5 x6 x7 x8:Value}(h:Blk w b t #[x0,x1,x2,x3,x4,x5,x6,x7,x8])(y0 y1 y2 y3 y4 y5 y6 y7 y8:Value) :
  Blk (((((((((w.setCell ⟨b,0,none⟩ y0).setCell ⟨b,1,none⟩ y1).setCell ⟨b,2,none⟩ y2).setCell ⟨b,3,none⟩ y3).setCell ⟨b,4,none⟩ y4).setCell ⟨b,5,none⟩ y5).setCell ⟨b,6,none⟩ y6).setCell ⟨b,7,none⟩ y7).setCell ⟨b,8,none⟩ y8) b t #[y0,y1,y2,y3,y4,y5,y6,y7,y8]:=by
 have h0:=h.set_' 0 y0 #[y0,x1,x2,x3,x4,x5,x6,x7,x8] rfl;have h1:=h0.set_' 1 y1 #[y0,y1,x2,x3,x4,x5,x6,x7,x8] rfl;have h2:=h1.set_' 2 y2 #[y0,y1,y2,x3,x4,x5,x6,x7,x8] rfl;have h3:=h2.set_' 3 y3 #[y0,y1,y2,y3,x4,x5,x6,x7,x8] rfl;have h4:=h3.set_' 4 y4 #[y0,y1,y2,y3,y4,x5,x6,x7,x8] rfl;have h5:=h4.set_' 5 y5 #[y0,y1,y2,y3,y4,y5,x6,x7,x8] rfl;have h6:=h5.set_' 6 y6 #[y0,y1,y2,y3,y4,y5,y6,x7,x8] rfl;have h7:=h6.set_' 7 y7 #[y0,y1,y2,y3,y4,y5,y6,y7,x8] rfl;have h8:=h7.set_' 8 y8 #[y0,y1,y2,y3,y4,y5,y6,y7,y8] rfl;exact h8
def Hd (p:Prop):Prop:=p
theorem hd {p:Prop}(h:p):Hd p:=h
theorem Hd.out {p:Prop}(h:Hd p):p:=h
theorem Hd.o {p:Prop}(h:Hd p):p:=h
theorem hd_eq (p:Prop):Hd p=p:=rfl
attribute [irreducible] Hd
theorem er {S:List Nat}{w:World}:Ext S w w:=Ext.refl S w
theorem ms {α:Type}{a b:α}(h:a∈[b]):a=b:=List.mem_singleton.1 h
theorem nl {a b c:Nat}(h:a<b)(k:b<=c):a<c:=Nat.lt_of_lt_of_le h k
theorem nt {a b c:Nat}(h:a<=b)(k:b<=c):a<=c:=Nat.le_trans h k
theorem ijp {c:Prop}{i:Decidable c}(h:c){α:Type}{t e:α}:ite c t e=t:=if_pos h
theorem ijn {c:Prop}{i:Decidable c}(h:¬c){α:Type}{t e:α}:ite c t e=e:=if_neg h
theorem ils {α:Type}{l:List α}{i:Nat}{a:α}(h:l[i]? = some a):∃h:i<l.length,l[i]=a:=List.getElem?_eq_some_iff.1 h
theorem ilm {α:Type}{l:List α}{i:Nat}{a:α}(h:l[i]? = some a):a∈l:=List.mem_of_getElem? h
theorem Addr.add_mk (b o i:Nat):(⟨b,o,none⟩:Addr).add i=⟨b,o+i,none⟩:=by
 unfold Addr.add;split<;>simp_all
theorem Addr.add_block (a:Addr)(i:Nat):(a.add i).block=a.block:=by unfold Addr.add;split<;>rfl
theorem wrap64_bd (x:Int) : -9223372036854775808<=wrap64 x/\wrap64 x<=9223372036854775807:=by
 unfold wrap64;omega
theorem tmod_lo (x n:Int)(hn:1<=n) : -n<x.tmod n:=by
 by_cases h:x<0
 ·have h1:x = -(-x):=by omega
  rw[h1,Int.neg_tmod];have:=Int.tmod_lt_of_pos (-x) (b:=n) (by omega);omega
 ·have:=Int.tmod_nonneg n (Int.not_lt.1 h);omega
theorem tmod_hi (x n:Int)(hn:1<=n):x.tmod n<n:=Int.tmod_lt_of_pos _ (by omega)
theorem ret_int {k:IntKind}{a b:Int}(h:a=b):Ending.returned (.int k a)=.returned (.int k b):=by rw[h]
theorem ret_bool {a b:Bool}(h:a=b):Ending.returned (.bool a)=.returned (.bool b):=by rw[h]
def Nums (xs:List Int):Array Value:=(xs.map (Value.int .i64)).toArray
theorem PT:(∀(a:Act) (d:Tmp) (v:Value),a.put (some d) v={a with tmps:=a.tmps.setIfInBounds d v })/\(∀(a:Act) (v:Value),a.put none v=a)/\(∀(l:List Value) (i:Nat) (x:Value),l.toArray.setIfInBounds i x=(l.set i x).toArray)/\(∀(x y:Value) (l:List Value),(x :: l).set 0 y=y :: l)/\(∀(x y:Value) (l:List Value) (n:Nat),(x :: l).set (n+1) y=x :: l.set n y):=
 ⟨fun _ _ _=>rfl,fun _ _=>rfl,fun _ _ _=>by simp,fun _ _ _=>rfl,fun _ _ _ _=>rfl⟩
theorem TK:(∀(x:Oper) (l:List Oper) (n:Nat),(x :: l).take (n+1)=x :: l.take n)/\(∀l:List Oper,l.take 0=[])/\(∀(x:Oper) (l:List Oper) (n:Nat),(x :: l).drop (n+1)=l.drop n)/\(∀l:List Oper,l.drop 0=l):=
 ⟨fun _ _ _=>rfl,fun _=>rfl,fun _ _ _=>rfl,fun _=>rfl⟩
instance iV:Coe Int Value:=⟨fun x=>.int .i64 x⟩
instance iN:Coe Nat Value:=⟨fun x=>.int .i64 (x:Int)⟩
instance iA:Coe Nat Addr:=⟨fun b=>⟨b,0,none⟩⟩
theorem CL {p:Prop}(h:p:=by((go_simp;try go_bits);first|rfl|exact⟨rfl,rfl⟩)):p:=h
end
structure Af where
 base:Int
 A:Option Addr
 cap:Nat
 ts:List (ByteArray×Int)
structure EH where
 k:Int
 op:Int
 lo:Int
 hi:Int
 n:Int
 m:Int
 buf:Int
 at_:Af
 A:Option Addr
 cap:Nat
inductive Ex where
 | mk (h:EH) (kids:List Ex)
structure SH where
 k:Int
 var:ByteArray
 lo:Int
 hi:Int
 step:Int
 vec:Bool
 cA:Option Addr
 cc:Nat
 conds:List Af
 A:Option Addr
 cap:Nat
 buf:Int
 at_:Af
 val:Ex
inductive St where
 | mk (h:SH) (body:List St)
structure Bf where
 name:ByteArray
 size:Int
 set:Bool
 A:Option Addr
 cap:Nat
 data:List Int
theorem ex_ind {P:Ex->Prop}(h:∀h ks,(∀e∈ks,P e)->P (.mk h ks)):∀e,P e
 | .mk a ks=>h a ks fun e _=>ex_ind h e
theorem st_ind {P:St->Prop}(h:∀h ks,(∀e∈ks,P e)->P (.mk h ks)):∀e,P e
 | .mk a ks=>h a ks fun e _=>st_ind h e
def Ex.h:Ex->EH|.mk h _=>h
def Ex.ks:Ex->List Ex|.mk _ ks=>ks
def St.h:St->SH|.mk h _=>h
def St.body:St->List St|.mk _ b=>b
def btw (x lo hi:Int):Bool:=decide (lo<=x)&&decide (x<=hi)
def isWd (x:Int):Bool:=btw x (-2147483648) 2147483647
def bdd (x:Int):Bool:=btw x (-100000) 100000
theorem btw_iff {x lo hi:Int}:btw x lo hi=true ↔ lo<=x/\x<=hi:=by simp[btw]
def ltS (a b:ByteArray):Bool:=Op.bytesLess a.toList b.toList
def eqS (a b:ByteArray):Bool:=a.toList==b.toList
def small1 (b:UInt8):Bool:=decide (97<=b.toNat)&&decide (b.toNat<=122)
def digit1 (b:UInt8):Bool:=decide (48<=b.toNat)&&decide (b.toNat<=57)
def nameB (s:ByteArray):Bool:=match s.data.toList with
 | []=>false
 | b :: r=>decide (r.length<=7)&&small1 b&&r.all fun c=>small1 c||digit1 c
def badT (t:ByteArray×Int):Bool:=!bdd t.2||decide (t.2=0)
def unord:List (ByteArray×Int)->Bool
 | a :: b :: r=>!ltS a.1 b.1||unord (b :: r)
 | _=>false
def hasS (l:List ByteArray)(s:ByteArray):Bool:=l.any fun x=>eqS s x
def strayT (vars:List ByteArray)(t:ByteArray×Int):Bool:=!hasS vars t.1
def affE (vars:List ByteArray)(a:Af):Int:=
 if 10<a.ts.length then 2 else if bdd a.base=false then 9 else if a.ts.any badT then 9 else if unord a.ts then 7 else if a.ts.any (strayT vars) then 5 else 0
def zeroA (a:Af):Bool:=decide (a.base=0)&&decide (a.ts.length=0)
mutual
def parts:Ex->Nat
 | .mk _ ks=>1+partsL ks
def partsL:List Ex->Nat
 | []=>0
 | e :: r=>parts e+partsL r
end
mutual
def deep:Ex->Nat
 | .mk _ ks=>deepL ks+1
def deepL:List Ex->Nat
 | []=>0
 | e :: r=>max (deep e) (deepL r)
end
def fits (many level:Nat)(e:Ex):Bool:=decide (many+parts e<=32)&&decide (level+deep e<=7)
def opN (op:Int):Int:=if op=15 then 3 else if btw op 4 10 then 2 else if btw op 11 14 then 1 else -1
def kidsN (k op:Int):Int:=if k=1 then 0 else if k=2 then 0 else if k=3 then 0 else if k=4 then 1 else if k=5 then opN op else -1
def zeroE (h:EH)(n:Nat):Bool:=decide (h.k=0)&&decide (h.op=0)&&decide (h.lo=0)&&decide (h.hi=0)&&decide (h.n=0)&&decide (h.m=0)&&decide (h.buf=0)&&zeroA h.at_&&decide (n=0)
def plainX (h:EH):Bool:=
 if h.k=1 then decide (h.op=0)&&decide (h.lo=0)&&decide (h.hi=0)&&decide (h.m=0)&&decide (h.buf=0)&&zeroA h.at_
 else if h.k=2 then decide (h.op=0)&&decide (h.lo=0)&&decide (h.hi=0)&&decide (h.n=0)&&decide (h.m=0)&&decide (h.buf=0)
 else if h.k=3 then decide (h.op=0)&&decide (h.lo=0)&&decide (h.hi=0)&&decide (h.n=0)&&decide (h.m=0)
 else if h.k=4 then decide (h.op=0)&&decide (h.hi=0)
 else if h.op=12 then decide (h.n=0)&&decide (h.m=0)&&decide (h.buf=0)&&zeroA h.at_
 else if h.op=13\/h.op=14 then decide (h.lo=0)&&decide (h.hi=0)&&decide (h.m=0)&&decide (h.buf=0)&&zeroA h.at_
 else decide (h.lo=0)&&decide (h.hi=0)&&decide (h.n=0)&&decide (h.m=0)&&decide (h.buf=0)&&zeroA h.at_
def formX (h:EH)(n:Nat):Bool:=plainX h&&decide ((n:Int)=kidsN h.k h.op)
def rangeX (h:EH):Bool:=
 if h.k=1 then isWd h.n
 else if h.k=4 then isWd h.lo&&btw h.n 1 100000&&btw h.m 1 262144
 else if h.k=5 then
  if h.op=12 then isWd h.lo&&isWd h.hi&&decide (h.lo<=h.hi)
  else if h.op=13 then btw h.n 1 31
  else if h.op=14 then btw h.n 1 2147483647
  else true
 else true
def bufX (nb:Nat)(h:EH):Bool:=decide ((h.k=3\/h.k=4)/\¬(0<=h.buf/\h.buf<nb))
def headX (vars:List ByteArray)(nb:Nat)(h:EH)(n:Nat):Int:=
 if kidsN h.k h.op<0 then 4 else if formX h n=false then 3 else if rangeX h=false then 9 else if bufX nb h then 1 else affE vars h.at_
mutual
def exprE (vars:List ByteArray)(nb:Nat):Ex->Int
 | .mk h ks=>if headX vars nb h ks.length=0 then exprEL vars nb ks else headX vars nb h ks.length
def exprEL (vars:List ByteArray)(nb:Nat):List Ex->Int
 | []=>0
 | e :: r=>if exprE vars nb e=0 then exprEL vars nb r else exprE vars nb e
end
def loopF (h:SH):Bool:=!eqS h.var ⟨#[]⟩||decide (h.lo≠0)||decide (h.hi≠0)||decide (h.step≠0)||h.vec
def storeF (h:SH):Bool:=decide (h.buf≠0) || !zeroA h.at_ || !zeroE h.val.h h.val.ks.length
def unusedS (h:SH)(nb:Nat):Bool:=
 if h.k=1 then decide (0<h.conds.length)||storeF h
 else if h.k=2 then loopF h||storeF h
 else loopF h||decide (0<h.conds.length)||decide (0<nb)
def noStore (s:St):Bool:=decide (s.h.k≠3)
def firstE {α:Type}(f:α->Int):List α->Int
 | []=>0
 | a :: r=>if f a=0 then firstE f r else f a
def fieldsE (vars:List ByteArray)(nb:Nat)(h:SH)(body:List St):Int:=
 if h.k=1 then
  if nameB h.var=false then 5 else if hasS vars h.var then 6
  else if bdd h.lo=false\/bdd h.hi=false\/btw h.step 1 100000=false then 9
  else if h.vec=true/\body.any noStore=true then 3 else 0
 else if h.k=2 then
  if btw h.conds.length 1 4=false then 3 else firstE (affE vars) h.conds
 else
  if btw h.buf 0 (nb-1)=false then 1 else if affE vars h.at_=0 then(if fits 0 1 h.val then exprE vars nb h.val else 2) else affE vars h.at_
def headE (vars:List ByteArray)(nb before:Nat)(h:SH)(body:List St):Int:=
 if 3000<=before\/h.k=1/\8<=vars.length then 2 else if btw h.k 1 3=false then 4 else if unusedS h body.length then 3 else fieldsE vars nb h body
mutual
def cntS:St->Nat
 | .mk _ b=>1+cntL b
def cntL:List St->Nat
 | []=>0
 | s :: r=>cntS s+cntL r
end
def innerV (vars:List ByteArray)(h:SH):List ByteArray:=if h.k=1 then vars ++ [h.var] else vars
mutual
def stE (nb:Nat)(vars:List ByteArray)(before:Nat):St->Int
 | .mk h b=>if headE vars nb before h b=0 then stEL nb (innerV vars h) (before+1) b else headE vars nb before h b
def stEL (nb:Nat)(vars:List ByteArray)(before:Nat):List St->Int
 | []=>0
 | s :: r=>if stE nb vars before s=0 then stEL nb vars (before+cntS s) r else stE nb vars before s
end
def bufE (ahead:List Bf)(b:Bf):Int:=
 if nameB b.name=false then 5 else if ahead.any (fun x=>eqS x.name b.name) then 6 else if btw b.size 1 262144=false then 9
 else if 0<b.data.length/\((b.data.length:Int)≠b.size\/b.set=false) then 3 else if b.data.any (fun x=>!isWd x) then 9 else 0
def bufEL:List Bf->List Bf->Int
 | _,[]=>0
 | ahead,b :: r=>if bufE ahead b=0 then bufEL (ahead ++ [b]) r else bufE ahead b
def sizes:List Bf->Int
 | []=>0
 | b :: r=>b.size+sizes r
def bufsE (l:List Bf):Int:=if 400<l.length then 2 else if bufEL [] l=0 then(if 262144<sizes l then 2 else 0) else bufEL [] l
def formedE (bs:List Bf)(body:List St):Int:=if bufsE bs=0 then stEL bs.length [] 0 body else bufsE bs
abbrev Env:=List (ByteArray×Int)
def lk (env:Env)(v:ByteArray):Int:=((env.find? fun p=>eqS p.1 v).map Prod.snd).getD 0
def evA (env:Env)(a:Af):Int:=a.ts.foldl (fun n t=>n+t.2*lk env t.1) a.base
def manyS (h:SH):Nat:=if h.hi<=h.lo then 0 else((h.hi-h.lo+h.step-1) / h.step).toNat
def valS (h:SH)(k:Nat):Int:=h.lo+k*h.step
def envS (env:Env)(h:SH)(k:Nat):Env:=env ++ [(h.var,valS h k)]
def holdsS (env:Env)(h:SH):Bool:=h.conds.all fun a=>decide (0<=evA env a)
mutual
def runN (env:Env):St->Nat
 | .mk h b=>1+(if h.k=3 then 0 else if h.k=2 then(if holdsS env h then runNL env b else 0)
   else if h.vec then manyS h*(1+b.length) else((List.range (manyS h)).map fun k=>1+runNL (envS env h k) b).sum)
def runNL (env:Env):List St->Nat
 | []=>0
 | s :: r=>runN env s+runNL env r
end
mutual
def storesS:St->Nat
 | .mk h b=>(if h.k=3 then 1 else 0)+storesL b
def storesL:List St->Nat
 | []=>0
 | s :: r=>storesS s+storesL r
end
structure Inst where
 no:Nat
 s:SH
 env:Env
def vecI (env:Env)(h:SH):Nat->List St->List Inst
 | _,[]=>[]
 | no,s :: r=>((List.range (manyS h)).map fun k=>⟨no,s.h,envS env h k⟩) ++ vecI env h (no+1) r
mutual
def instS (env:Env)(no:Nat):St->List Inst
 | .mk h b=>if h.k=3 then [⟨no,h,env⟩] else if h.k=2 then(if holdsS env h then instL env no b else [])
   else if h.vec then vecI env h no b else((List.range (manyS h)).map fun k=>instL (envS env h k) no b).flatten
def instL (env:Env)(no:Nat):List St->List Inst
 | []=>[]
 | s :: r=>instS env no s ++ instL env (no+storesS s) r
end
def sizeB (bs:List Bf)(k:Int):Int:=((bs[k.toNat]?).map Bf.size).getD 0
def inX (bs:List Bf)(env:Env)(h:EH):Bool:=
 if h.k=2 then isWd (evA env h.at_)
 else if h.k=3 then decide (0<=evA env h.at_)&&decide (evA env h.at_<sizeB bs h.buf)
 else if h.k=4 then decide (0<=evA env h.at_)&&decide (evA env h.at_+h.n*(h.m-1)<sizeB bs h.buf)
 else true
mutual
def inE (bs:List Bf)(env:Env):Ex->Bool
 | .mk h ks=>inX bs env h&&inEL bs env ks
def inEL (bs:List Bf)(env:Env):List Ex->Bool
 | []=>true
 | e :: r=>inE bs env e&&inEL bs env r
end
def inI (bs:List Bf)(i:Inst):Bool:=decide (0<=evA i.env i.s.at_)&&decide (evA i.env i.s.at_<sizeB bs i.s.buf)&&inE bs i.env i.s.val
def checkE (bs:List Bf)(body:List St):Int:=
 if formedE bs body=0 then(if 2500000<runNL [] body then 2 else if(instL [] 0 body).all (inI bs) then 0 else 9) else formedE bs body
def Stm (w:World)(base g n:Nat):Prop:=∃(A:Option Addr) (len cap:Nat) (k:Int),
 Blk w g 25 #[.slice A len cap,.int .i64 k]/\base<=g/\0<=k/\k+n<=1152921504606846976/\len<=9223372036854775807/\
 (0<len->∃b o,A=some ⟨b,o,none⟩/\b<base/\∀i,i<len->∃x,w.cell? ⟨b,o+i,none⟩=some (.int .i64 x))
theorem Stm.lt {w:World}{base g n:Nat}(h:Stm w base g n):g<w.heap.size:=by
 obtain⟨A,len,cap,k,h,_⟩:=h;exact h.lt
theorem Stm.base {w:World}{base g n:Nat}(h:Stm w base g n):base<=g:=by
 obtain⟨A,len,cap,k,_,h,_⟩:=h;exact h
theorem Stm.less {w:World}{base g n m:Nat}(h:Stm w base g n)(hm:m<=n):Stm w base g m:=by
 obtain⟨A,len,cap,k,h1,h2,h3,h4,h5⟩:=h;exact⟨A,len,cap,k,h1,h2,h3,by omega,h5⟩
theorem Stm.ext {S:List Nat}{w w':World}{base g n:Nat}(h:Stm w base g n)(he:Ext S w w')(hg:g∉S)(hS:∀x,x∈S->base<=x):Stm w' base g n:=by
 obtain⟨A,len,cap,k,h1,h2,h3,h4,h5,h6⟩:=h;refine⟨A,len,cap,k,h1.ext he hg,h2,h3,h4,h5,fun hl=>?_⟩
 obtain⟨b,o,rfl,hb,hc⟩:=h6 hl;refine⟨b,o,rfl,hb,fun i hi=>?_⟩
 obtain⟨x,hx⟩:=hc i hi;exact⟨x,he.held hx (fun hm=>by have:=hS _ hm;simp at this;omega)⟩
theorem Stm.drew {w:World}{base g n:Nat}(h:Stm w base g n):Stm w.drew base g n:=h
theorem Stm.drewN {w:World}{base g n:Nat}(h:Stm w base g n)(k:Nat):Stm (w.drewN k) base g n:=h
theorem Stm.alloc {w:World}{base g n:Nat}(h:Stm w base g n)(o:Obj):Stm (w.alloc o) base g n:=h.ext (S:=[]) ((Ext.refl _ _).alloc o) (by simp) (by simp)
theorem Stm.setCell {w:World}{base g n:Nat}(h:Stm w base g n){p:Addr}(hp:g≠p.block)(hb:base<=p.block)(u:Value):Stm (w.setCell p u) base g n:=
 h.ext (S:=[p.block]) ((Ext.refl _ _).setCell (.inl (by simp)) u) (by simpa using hp) (by simpa using hb)
theorem Stm.setAt {w:World}{base g n b i:Nat}{u:Value}(hg:g≠b)(hb:base<=b)(h:Stm w base g n):Stm (w.setCell ⟨b,i,none⟩ u) base g n:=h.setCell hg hb u
theorem below_any (x n:Int)(w:World)(hn:n<=9223372036854775807) :
  Calls Tryz.prog 39 #[.int .i64 x,.int .i64 n] w fun e w'=>∃r:Int,e=.returned (.int .i64 r)/\0<=r/\(1<=n->r<n)/\w=w':=by
 by_cases h1:n<1
 ·go_enter Tryz.func39,Tryz.ntmps39
  go_wp2
  go_ret
  exact⟨0,rfl,Int.le_refl _,fun h=>by omega,rfl⟩
 ·have hlo:=tmod_lo x n (by omega);have hhi:=tmod_hi x n (by omega);go_enter Tryz.func39,Tryz.ntmps39
  go_wp2
  ·go_ret
   exact⟨_,rfl,by omega,by omega,rfl⟩
  ·go_ret
   exact⟨_,rfl,by omega,by omega,rfl⟩
def Drawn (base g n:Nat)(w:World)(R:Int->Prop)(e:Ending)(w':World):Prop:=
 ∃r:Int,e=.returned (.int .i64 r)/\R r/\Ext [g] w w'/\Stm w' base g n
theorem next_any (base g n:Nat)(m:Int)(w:World)(h:Stm w base g (n+1))(hm:m<=9223372036854775807) :
  Calls Tryz.prog 10 #[.pointer (some ⟨g,0,none⟩),.int .i64 m] w (Drawn base g n w fun r=>0<=r/\(1<=m->r<m)):=by
 obtain⟨A,len,cap,k,hB,hbase,hk,hkn,hlen,hl⟩:=h;obtain⟨hc,hf⟩:=hB.both
 have hend:∀j,Ext [g] w ((w.setCell ⟨g,1,none⟩ (.int .i64 (k+1))).drewN j)/\Stm ((w.setCell ⟨g,1,none⟩ (.int .i64 (k+1))).drewN j) base g n:=by
  intro j;have hE:Ext [g] w ((w.setCell ⟨g,1,none⟩ (.int .i64 (k+1))).drewN j):=((Ext.refl _ _).setCell (.inl (by simp)) _).drewN j;refine⟨hE,A,len,cap,k+1,(hB.set_' 1 _ _ rfl).drewN j,hbase,by omega,by omega,hlen,fun h0=>?_⟩
  obtain⟨b,o,rfl,hb,hcc⟩:=hl h0;refine⟨b,o,rfl,hb,fun i hi=>?_⟩
  obtain⟨x,hx⟩:=hcc i hi;exact⟨x,hE.held hx (by simp;omega)⟩
 have HE:=hd hend;clear hend;by_cases h0:len=0
 ·subst h0;clear hl;go_enter Tryz.func10,Tryz.ntmps10
  go_wp2_with (go_at_call 39;refine(below_any _ _ _ (by omega)).mono ?_;rintro e w' ⟨r,rfl,hr0,hr1,rfl⟩)
  go_ret
  exact⟨_,rfl,⟨hr0,hr1⟩,HE.out 0⟩
 ·obtain⟨b,o,rfl,hb,hcc⟩:=hl (by omega);clear hl
  obtain⟨x,hx⟩:=hcc (k % len).toNat (by
   have:=Int.emod_lt_of_pos k (b:=(len:Int)) (by omega);have:=Int.emod_nonneg k (b:=(len:Int)) (by omega);omega)
  clear hcc;have hl0:((len:Int)==0)=false:=by simp;omega
  have hq0:0<=k / len:=Int.ediv_nonneg hk (by omega);have hm0:0<=k % len:=Int.emod_nonneg _ (by omega);have hm1:k % len<len:=Int.emod_lt_of_pos _ (by omega);go_enter Tryz.func10,Tryz.ntmps10
  go_wp2_with fail
  go_quiet (fail)
  go_wp2_with fail
  go_quiet (fail)
  go_wp2_with (go_at_call 39;refine(below_any _ _ _ (by omega)).mono ?_;rintro e w' ⟨r,rfl,hr0,hr1,rfl⟩)
  go_ret
  exact⟨_,rfl,⟨hr0,hr1⟩,HE.out _⟩
theorem range_any (base g n:Nat)(lo hi:Int)(w:World)(h:Stm w base g (n+1))(h1 : -1152921504606846976<=lo/\lo<=1152921504606846976)(h2 : -1152921504606846976<=hi/\hi<=1152921504606846976) :
  Calls Tryz.prog 12 #[.pointer (some ⟨g,0,none⟩),.int .i64 lo,.int .i64 hi] w (Drawn base g n w fun r=>lo<=r/\(r<=lo\/r<=hi)):=by
 obtain⟨a1,a2⟩:=h1;obtain⟨b1,b2⟩:=h2;by_cases hlt:hi<lo
 ·go_enter Tryz.func12,Tryz.ntmps12
  go_wp2_with fail
  go_ret
  exact⟨_,rfl,⟨by omega,by omega⟩,Ext.refl _ _,h.less (by omega)⟩
 ·go_enter Tryz.func12,Tryz.ntmps12
  go_wp2_with fail
  refine(next_any base g n _ _ h (by omega)).mono ?_
  rintro e w' ⟨r,rfl,⟨hr0,hr1⟩,hE,hS⟩;replace hr1:=hr1 (by omega);go_wp2_with fail
  go_ret
  exact⟨_,rfl,⟨by omega,by omega⟩,hE,hS⟩
def Flipped (base g n:Nat)(w:World)(e:Ending)(w':World):Prop:=
 ∃b:Bool,e=.returned (.bool b)/\Ext [g] w w'/\Stm w' base g n
theorem flip_any (base g n:Nat)(m:Int)(w:World)(h:Stm w base g (n+1))(hm:m<=9223372036854775807) :
  Calls Tryz.prog 14 #[.pointer (some ⟨g,0,none⟩),.int .i64 m] w (Flipped base g n w):=by
 go_enter Tryz.func14,Tryz.ntmps14
 go_wp2_with (go_at_call 10;refine(next_any base g n _ _ h (by omega)).mono ?_;rintro e w' ⟨r,rfl,⟨hr0,hr1⟩,hE,hS⟩)
 go_ret
 exact⟨_,rfl,hE,hS⟩
theorem pick_any (base g n b cap:Nat)(t:TypeId)(xs:List Int)(w:World)(h:Stm w base g (n+1))(hb:Blk w b t (Nums xs))(hbg:b≠g)(hx:0<xs.length/\xs.length<=9223372036854775807) :
  Calls Tryz.prog 13 #[.pointer (some ⟨g,0,none⟩),.slice (some ⟨b,0,none⟩) xs.length cap] w (Drawn base g n w fun r=>r∈xs):=by
 obtain⟨hx0,hx1⟩:=hx;have HB:=hd hb;clear hb;go_enter Tryz.func13,Tryz.ntmps13
 go_wp2_with fail
 refine(next_any base g n _ _ h (by omega)).mono ?_
 rintro e w' ⟨r,rfl,⟨hr0,hr1⟩,hE,hS⟩;replace hr1:=hr1 (by omega)
 have hc:w'.cell? ⟨b,0+r.toNat,none⟩=some (.int .i64 (xs[r.toNat]'(by omega))):=by
  rw[(HB.out.ext hE (by simpa using hbg)).cell];have hlt:r.toNat<xs.length:=by omega
  simp[Nums,hlt]
 have hmem:xs[r.toNat]'(by omega)∈xs:=List.getElem_mem _;generalize xs[r.toNat]'(by omega)=y at hc hmem;have HM:=hd hmem;clear hmem;rw[Nat.zero_add] at hc;go_wp2_with fail
 go_ret
 exact⟨_,rfl,HM.out,hE,hS⟩
theorem word_any (base g n:Nat)(w:World)(h:Stm w base g (n+3)) :
  Calls Tryz.prog 165 #[.pointer (some ⟨g,0,none⟩)] w (Drawn base g n w fun r=>-2147483648<=r/\r<=2147483647):=by
 go_enter Tryz.func165,Tryz.ntmps165
 go_wp2_with fail
 refine(next_any base g (n+2) _ _ h (by omega)).mono ?_
 rintro e w1 ⟨r,rfl,⟨hr0,hr1⟩,hE,hS⟩;replace hr1:=hr1 (by omega)
 go_wp2_with (first
  | (go_at_call 10;refine(next_any base g _ _ _ (by assumption) (by omega)).mono ?_;rintro e w2 ⟨q,rfl,⟨hq0,hq1⟩,hE2,hS2⟩;replace hq1:=hq1 (by omega))
  | (go_at_call 12;refine(range_any base g _ _ _ _ (by assumption) (by omega) (by omega)).mono ?_;rintro e w2 ⟨q,rfl,⟨hq0,hq1⟩,hE2,hS2⟩))
 ·go_ret
  exact⟨_,rfl,⟨by omega,by omega⟩,hE.trans hE2,hS2.less (by omega)⟩
 ·go_ret
  exact⟨_,rfl,⟨by omega,by omega⟩,hE.trans hE2,hS2.less (by omega)⟩
 ·rename_i hE3 hS3 _ _ _ _ _ _
  go_ret
  exact⟨_,rfl,⟨by omega,by omega⟩,(hE.trans (by assumption)).trans hE2,hS2.less (by omega)⟩
 ·go_ret
  exact⟨_,rfl,⟨by omega,by omega⟩,hE.trans hE2,hS2.less (by omega)⟩
section
structure Spec where
 α:Type
 d:α
 f:α->Value
 V:α->World->Prop
section
variable {P:Program} {ops:Array Oper} {J:Nat->World->Prop} {R:World->World->Prop} {S:Nat->Option Spec}
def someUpon (P:Program)(J':World->Prop)(V:Value->World->Prop):Result Next->Prop
 | .ok (.value u) w'=>V u w'/\J' w'
 | .ok .skip w'=>V undef w'/\J' w'
 | .ok (.enter f args) w'=>Calls P f args w' fun e w''=>∃v,e=.returned v/\V v w''/\J' w''
 | _=>False
def someAt (P:Program)(o:Oper)(a:Act)(J':World->Prop)(V:Value->World->Prop)(w:World):Prop:=someUpon P J' V ((execOp a.eval o).run P w)
def detUpon (u:Value)(w:World):Result Next->Prop
 | .ok (.value v) w'=>w'=w/\v=u
 | .ok .skip w'=>w'=w/\undef=u
 | _=>False
def detAt (P:Program)(o:Oper)(a:Act)(u:Value)(w:World):Prop:=detUpon u w ((execOp a.eval o).run P w)
theorem detAt_unique {o:Oper}{a:Act}{u v:Value}{w:World}(h:detAt P o a u w)(k:detAt P o a v w):u=v:=by
 unfold detAt at h k;generalize (execOp a.eval o).run P w=r at *;cases r with
 | ok n w'=>
  cases n<;>simp only[detUpon] at h k
  case value x=>exact h.2.symm.trans k.2
  case skip=>exact h.2.symm.trans k.2
 | halt x w'=>exact h.elim
def upd (F:Nat->World->Prop)(i:Nat)(A:World->Prop):Nat->World->Prop:=fun j w=>if j=i then A w else F j w
theorem upd_comm {F:Nat->World->Prop}{i j:Nat}{A B:World->Prop}(h:i≠j):upd (upd F i A) j B=upd (upd F j B) i A:=by
 funext k w
 unfold upd;by_cases h1:k=i
 ·subst h1;simp[h]
 ·by_cases h2:k=j
  ·subst h2;simp[Ne.symm h]
  ·simp[h1,h2]
theorem someAt_put {o:Oper}(hs:∀cs b,o.op≠.select cs b){a:Act}{dst:Option Tmp}{v:Value}(h:∀d,dst=some d->d∉o.looksAt ops){J':World->Prop}{V:Value->World->Prop}{w:World} :
  someAt P o (a.put dst v) J' V w ↔ someAt P o a J' V w:=by
 unfold someAt;rw[execOp_put (ops:=ops) o hs a dst v h]
theorem detAt_put {o:Oper}(hs:∀cs b,o.op≠.select cs b){a:Act}{dst:Option Tmp}{v:Value}(h:∀d,dst=some d->d∉o.looksAt ops){u:Value}{w:World} :
  detAt P o (a.put dst v) u w ↔ detAt P o a u w:=by
 unfold detAt;rw[execOp_put (ops:=ops) o hs a dst v h]
theorem wp_of_someAt {o:Oper}{a:Act}{J':World->Prop}{V:Value->World->Prop}{w:World}{K:Act->World->Prop}{Q:Exit->Act->World->Prop}(h:someAt P o a J' V w)
  (hK:∀v w',V v w'->J' w'->K (a.put o.dst v) w'):o.wp P a w K Q:=by
 unfold someAt at h;unfold Oper.wp;generalize (execOp a.eval o).run P w=r at *;cases r with
 | ok n w'=>
  cases n<;>simp only[someUpon] at h<;>simp only[Oper.upon]
  case value u=>exact hK _ _ h.1 h.2
  case skip=>exact hK _ _ h.1 h.2
  case enter f args=>exact h.mono fun e w'' ⟨v,he,hv,hj⟩=>by subst he;exact hK _ _ hv hj
 | halt x w'=>exact h.elim
theorem wp_of_detAt {o:Oper}{a:Act}{u:Value}{w:World}{K:Act->World->Prop}{Q:Exit->Act->World->Prop}(h:detAt P o a u w)(hK:K (a.put o.dst u) w):o.wp P a w K Q:=by
 unfold detAt at h;unfold Oper.wp;generalize (execOp a.eval o).run P w=r at *;cases r with
 | ok n w'=>
  cases n<;>simp only[detUpon] at h<;>simp only[Oper.upon]
  case value v=>obtain⟨rfl,rfl⟩:=h;exact hK
  case skip=>obtain⟨rfl,rfl⟩:=h;exact hK
 | halt x w'=>exact h.elim
def relB (ops:Array Oper)(p:Nat):Bool:=
 Region.noSelect ops&&decide (p<=ops.size)&&(List.range ops.size).all fun i=>match ops[i]? with
  | none=>false
  | some oi=>(oi.after.all fun e=>!Region.binds .any e||decide (e.on<i)) &&
    if i<p then(List.range i).all fun j=>(oi.after.any fun e=>Region.binds .any e&&e.on==j)||match ops[j]? with|some oj=>oj.apart ops oi|none=>false
    else(List.range i).all fun j=>(List.range i).any fun d=>match ops[i-d]? with|some ok=>decide (j<i-d)&&ok.after.any fun e=>Region.binds .any e&&e.on==j|none=>false
theorem relB_spec {p:Nat}(h:relB ops p=true){i:Nat}{oi:Oper}(hi:ops[i]? = some oi) :
  (∀e∈oi.after,Region.binds .any e=true->e.on<i)/\
  (i<p->∀j oj,j<i->ops[j]? = some oj->(∀e∈oi.after,Region.binds .any e=true->e.on≠j)->oj.apart ops oi=true)/\
  (p<=i->∀j,j<i->∃k ok,j<k/\k<=i/\ops[k]? = some ok/\∃e∈ok.after,Region.binds .any e=true/\e.on=j):=by
 simp only[relB,Bool.and_eq_true,List.all_eq_true,List.mem_range] at h;have hlt:i<ops.size:=(Array.getElem?_eq_some_iff.1 hi).1;have h1:=h.2 i hlt;simp only[hi,Bool.and_eq_true,Array.all_eq_true_iff_forall_mem,Bool.or_eq_true,Bool.not_eq_true',decide_eq_true_eq] at h1;refine⟨fun e he hb=>(h1.1 e he).resolve_left (by simp[hb]),fun hip j oj hj hoj hno=>?_,fun hip j hj=>?_⟩
 ·have h2:=h1.2;rw[if_pos hip] at h2;simp only[List.all_eq_true,List.mem_range,Bool.or_eq_true] at h2;rcases h2 j hj with h2|h2
  ·obtain⟨e,he,hb⟩:=Array.any_eq_true'.1 h2;simp only[Bool.and_eq_true,beq_iff_eq] at hb;exact absurd hb.2 (hno e he hb.1)
  ·simpa[hoj] using h2
 ·have h2:=h1.2;rw[if_neg (by omega)] at h2;simp only[List.all_eq_true,List.mem_range,List.any_eq_true] at h2;obtain⟨d,hd,h3⟩:=h2 j hj;cases hk:ops[i-d]? with
  | none=>simp[hk] at h3
  | some ok=>
   simp only[hk,Bool.and_eq_true,decide_eq_true_eq] at h3;obtain⟨e,he,hb⟩:=Array.any_eq_true'.1 h3.2;simp only[Bool.and_eq_true,beq_iff_eq] at hb;exact⟨i-d,ok,h3.1,by omega,hk,e,he,hb⟩
def Shut (ops:Array Oper)(listed:Array Bool):Prop:=∀k ok,ops[k]? = some ok->listed.getD k false=true->∀e∈ok.after,Region.binds .any e=true->listed.getD e.on false=true
theorem Shut.set {listed:Array Bool}(h:Shut ops listed){i:Nat}{oi:Oper}(hi:ops[i]? = some oi)(hall:∀e∈oi.after,Region.binds .any e=true->listed.getD e.on false=true):Shut ops (listed.setIfInBounds i true):=by
 intro k ok hk hl e he hb;by_cases hki:k=i
 ·subst hki;rw[hi] at hk;cases hk
  exact getD_set_true (hall e he hb)
 ·rw[getD_set_ne false (Ne.symm hki)] at hl;exact getD_set_true (h k ok hk hl e he hb)
theorem all_listed {p:Nat}(hB:relB ops p=true){listed:Array Bool}(hsh:Shut ops listed){i:Nat}{oi:Oper}(hi:ops[i]? = some oi)(hip:p<=i)
  (hall:∀e∈oi.after,Region.binds .any e=true->listed.getD e.on false=true):∀d j,i-j<=d->j<i->listed.getD j false=true:=by
 intro d
 induction d with
 | zero=>intro j h1 h2;omega
 | succ d ih=>
  intro j h1 h2;obtain⟨k,ok,hjk,hki,hok,e,he,hb,heq⟩:=(relB_spec hB hi).2.2 hip j h2;rcases Nat.lt_or_ge k i with hlt|hge
  ·have:=hsh k ok hok (ih k (by omega) hlt) e he hb;rw[heq] at this;exact this
  ·have hke:k=i:=by omega
   subst hke;rw[hi] at hok;cases hok
   have:=hall e he hb;rw[heq] at this;exact this
theorem relB_sel {p:Nat}(hB:relB ops p=true)(j:Nat)(o:Oper)(cs:Array SelectCase)(b:Bool)(ho:ops[j]? = some o):o.op≠.select cs b:=by
 simp only[relB,Bool.and_eq_true] at hB;exact Region.noSelect_spec hB.1.1 j o cs b ho
theorem relB_le {p:Nat}(hB:relB ops p=true):p<=ops.size:=by
 simp only[relB,Bool.and_eq_true,decide_eq_true_eq] at hB;exact hB.1.2
theorem getD_true_of {listed:Array Bool}{j:Nat}(hj:j<listed.size)(h:¬listed.getD j true=false):listed.getD j false=true:=by
 simp[Array.getElem?_eq_getElem hj] at h⊢;exact h
theorem getD_false_of {listed:Array Bool}{j:Nat}(hj:j<listed.size)(h:listed.getD j false=true):¬listed.getD j true=false:=by
 simp[Array.getElem?_eq_getElem hj] at h⊢;exact h
theorem wpAny_tail {p:Nat}{Q':Exit->Act->World->Prop}(hB:relB ops p=true) :
  ∀(l:List Oper) (k:Nat) (listed:Array Bool) (a:Act) (w:World),p<=k->listed.size=ops.size->k+l.length=ops.size->(∀j,l[j]? = ops[k+j]?)->
   (∀j,j<ops.size->(listed.getD j true=false ↔ k<=j))->Shut ops listed->wpList P ops Q' l a w->wpAny P .any ops Q' l.length listed a w
 | [],k,listed,a,w,hp,hsz,hlen,hl,hun,hsh,h=>by
  refine⟨?_,h⟩
  apply List.eq_nil_iff_forall_not_mem.2
  intro i hi;obtain⟨h0,o,ho,_⟩:=mem_ready.1 hi;have hio:i<ops.size:=(Array.getElem?_eq_some_iff.1 ho).1;have:=(hun i hio).1 h0;simp at hlen;omega
 | o :: l,k,listed,a,w,hp,hsz,hlen,hl,hun,hsh,h=>by
  have hk:ops[k]? = some o:=by simpa using(hl 0).symm
  have hko:k<ops.size:=(Array.getElem?_eq_some_iff.1 hk).1
  have hready:k∈Region.ready .any ops listed:=by
   refine mem_ready.2 ⟨(hun k hko).2 (Nat.le_refl _),o,hk,fun e he hb=>?_⟩
   have hlt:=(relB_spec hB hk).1 e he hb;exact getD_true_of (by omega) (fun hg=>by have:=(hun e.on (by omega)).1 hg;omega)
  refine⟨fun hr=>(by rw[hr] at hready;cases hready),fun i hi=>?_⟩
  obtain⟨h0,oi,hoi,hall⟩:=mem_ready.1 hi;have hio:i<ops.size:=(Array.getElem?_eq_some_iff.1 hoi).1;have hki:k<=i:=(hun i hio).1 h0
  have hik:i=k:=by
   rcases Nat.lt_or_ge k i with hlt|hge
   ·exfalso
    exact getD_false_of (by omega) (all_listed hB hsh hoi (by omega) hall _ k (Nat.le_refl _) hlt) ((hun k hko).2 (Nat.le_refl _))
   ·omega
  subst hik
  have hrec:∀a' w',wpList P ops Q' l a' w'->wpAny P .any ops Q' l.length (listed.setIfInBounds i true) a' w':=fun a' w' h'=>
   wpAny_tail hB l (i+1) _ a' w' (by omega) (by simpa using hsz) (by simp at hlen;omega) (fun j=>by have:=hl (j+1);simpa[Nat.add_assoc,Nat.add_comm 1 j] using this) (fun j hj=>by
    by_cases hji:j=i
    ·subst hji;simp[show j<listed.size by omega]
    ·rw[getD_set_ne true (Ne.symm hji),hun j hj];omega) (hsh.set hoi hall) h'
  unfold wpOp;rw[hoi];have hoe:oi=o:=by rw[hk] at hoi;exact(Option.some.inj hoi).symm
  subst hoe;unfold wpList at h;show if Region.wanted oi (yielded ops a.tmps)=true then _ else _
  split
  ·rename_i hw;rw[if_pos hw] at h;exact h.imp (Oper.wp_mono hrec) id
  ·rename_i hw;rw[if_neg hw] at h;exact hrec _ _ h
def places:Nat->List Oper->List (Nat×Oper)
 | _,[]=>[]
 | k,o :: l=>(k,o) :: places (k+1) l
theorem places_length:∀(l:List Oper) (k:Nat),(places k l).length=l.length
 | [],_=>rfl
 | _ :: l,k=>by simp[places,places_length l]
theorem mem_places:∀(l:List Oper) (k j:Nat) (o:Oper),(j,o)∈places k l ↔ k<=j/\l[j-k]? = some o
 | [],_,_,_=>by simp[places]
 | x :: l,k,j,o=>by
  simp only[places,List.mem_cons,Prod.mk.injEq,mem_places l (k+1) j o];rcases Nat.lt_trichotomy j k with h|h|h
  ·constructor
   ·rintro(⟨h1,_⟩|⟨h1,_⟩)<;>omega
   ·rintro⟨h1,_⟩;omega
  ·subst h;simp only[Nat.sub_self,List.getElem?_cons_zero,true_and,Nat.le_refl,Option.some.injEq];constructor
   ·rintro(h1|⟨h1,_⟩)
    ·exact h1.symm
    ·omega
   ·exact fun h1=>.inl h1.symm
  ·obtain⟨d,rfl⟩:∃d,j=k+1+d:=⟨j-k-1,by omega⟩;have e1:k+1+d-k=d+1:=by omega
   have e2:k+1+d-(k+1)=d:=by omega
   rw[e1,e2,List.getElem?_cons_succ];constructor
   ·rintro(⟨h1,_⟩|⟨_,h2⟩)
    ·omega
    ·exact⟨by omega,h2⟩
   ·rintro⟨_,h2⟩;exact .inr ⟨by omega,h2⟩
theorem places_sorted:∀(l:List Oper) (k:Nat),((places k l).map (·.1)).Pairwise (· < ·)
 | [],_=>by simp[places]
 | x :: l,k=>by
  simp only[places,List.map_cons,List.pairwise_cons];refine⟨fun j hj=>?_,places_sorted l (k+1)⟩
  obtain⟨⟨i,o⟩,hm,rfl⟩:=List.mem_map.1 hj;have:=(mem_places l (k+1) i o).1 hm;simp;omega
end
structure Good (ops:Array Oper)(i:Nat)(r:Nat->Bool):Prop where
 mine:r i=true
 ready:∀oi,ops[i]? = some oi->∀e∈oi.after,Region.binds .any e=true->r e.on=false
 shut:∀j oj,ops[j]? = some oj->r j=false->∀e∈oj.after,Region.binds .any e=true->r e.on=false
def off (r:Nat->Bool)(i:Nat):Nat->Bool:=fun j=>r j && !(j==i)
theorem Good.later {ops:Array Oper}{i:Nat}{r:Nat->Bool}(h:Good ops i r)(j:Nat)(hj:(ops[j]?.map fun oj=>oj.after.any fun e=>Region.binds .any e&&e.on==i)=some true):r j=true:=by
 cases ho:ops[j]? with
 | none=>rw[ho] at hj;cases hj
 | some oj=>
  rw[ho] at hj;simp only[Option.map_some,Option.some.injEq] at hj;obtain⟨e,he,hb⟩:=Array.any_eq_true'.1 hj;simp only[Bool.and_eq_true,beq_iff_eq] at hb;cases hr:r j with
  | true=>rfl
  | false=>
   have:=h.shut j oj ho hr e he hb.1;rw[hb.2,h.mine] at this;cases this
theorem getD_false_iff {a:Array Bool}{i:Nat}(hi:i<a.size)(h:a.getD i false=true):a.getD i true=true:=by
 simp[Array.getD_eq_getD_getElem?,hi] at h⊢;exact h
theorem getD_true_flip {a:Array Bool}{i:Nat}(hi:i<a.size)(h:a.getD i true=true):a.getD i false=true:=by
 simp[Array.getD_eq_getD_getElem?,hi] at h⊢;exact h
def rem (listed:Array Bool):Nat->Bool:=fun j=>!(listed.getD j true)
end
theorem stream_new (A:Option Addr)(len cap:Nat)(w:World)(hlen:len<=9223372036854775807)(hA:0<len->∃b o,A=some ⟨b,o,none⟩/\b<w.heap.size/\∀i,i<len->∃x,w.cell? ⟨b,o+i,none⟩=some (.int .i64 x)) :
  Stm (w.alloc (.cells #[.slice A len cap,.int .i64 0] 25)) w.heap.size w.heap.size 1000000000:=
 ⟨A,len,cap,0,Blk.new _ _ _,Nat.le_refl _,Int.le_refl _,by omega,hlen,fun h=>by
  obtain⟨b,o,h1,h2,h3⟩:=hA h;refine⟨b,o,h1,h2,fun i hi=>?_⟩
  obtain⟨x,hx⟩:=h3 i hi;exact⟨x,((Ext.refl [] w).alloc _).held hx (by simp)⟩⟩
end Go.Proofs.YtfjdmoppfbddpaaGreatDoor
