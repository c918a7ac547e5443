import Derived.Test.YtfppibmloloakaaGreatDoorRows
import Derived.WalkKit
import Derived.WalkSpells
import Derived.WalkLawsBesides
import Derived.KernelRfl
import Derived.Lib.Hide
import Derived.Deep.Draws
import Derived.Deep.QuietTactic
import Derived.BigQuiet
import Derived.Deep.Quiet
namespace Go.Proofs.YtfppibmloloakaaGreatDoor
open Go.RowKit Go.Proofs.Tryz
set_option linter.all false
section
structure Ext (S:List Nat)(w w':World):Prop where
 os:w'.os=w.os
 tape:w'.tape=w.tape
 output:w'.output=w.output
 size:w.heap.size<=w'.heap.size
 block:∀k,k<w.heap.size->k∉S->w'.heap[k]? = w.heap[k]?
theorem Ext.refl (S:List Nat)(w:World):Ext S w w:=⟨rfl,rfl,rfl,Nat.le_refl _,fun _ _ _=>rfl⟩
theorem Ext.step {S T:List Nat}{a b c:World}(h:Ext S a b)(k:Ext T b c)(hT:∀x,x∈T->x∈S\/a.heap.size<=x):Ext S a c:=
 ⟨k.os.trans h.os,k.tape.trans h.tape,k.output.trans h.output,Nat.le_trans h.size k.size,fun i hi hn=>
  (k.block i (Nat.lt_of_lt_of_le hi h.size) (fun hx=>by rcases hT i hx with h1|h1;exact hn h1;omega)).trans (h.block i hi hn)⟩
theorem Ext.trans {S:List Nat}{a b c:World}(h:Ext S a b)(k:Ext S b c):Ext S a c:=h.step k fun _ hx=>.inl hx
theorem Ext.mono {S T:List Nat}{a b:World}(h:Ext S a b)(hT:∀x,x∈S->x∈T\/a.heap.size<=x):Ext T a b:=(Ext.refl T a).step h hT
theorem Ext.drew {S:List Nat}{a w:World}(h:Ext S a w):Ext S a w.drew:=⟨h.os,h.tape,h.output,h.size,h.block⟩
theorem Ext.drewN {S:List Nat}{a w:World}(h:Ext S a w)(n:Nat):Ext S a (w.drewN n):=⟨h.os,h.tape,h.output,h.size,h.block⟩
theorem Ext.alloc {S:List Nat}{a w:World}(h:Ext S a w)(o:Obj):Ext S a (w.alloc o):=
 ⟨h.os,h.tape,h.output,Nat.le_trans h.size (by simp),fun i hi hn=>(Below.heap_alloc w o i (Nat.lt_of_lt_of_le hi h.size)).trans (h.block i hi hn)⟩
theorem Ext.setCell {S:List Nat}{a w:World}(h:Ext S a w){p:Addr}(hp:p.block∈S\/a.heap.size<=p.block)(u:Value):Ext S a (w.setCell p u):=
 ⟨h.os,h.tape,h.output,by simpa[World.setCell] using h.size,fun i hi hn=>(Below.heap_setCell w p u i (by
  rintro rfl;rcases hp with hp|hp
  ·exact hn hp
  ·omega)).trans (h.block i hi hn)⟩
theorem Ext.setAt {S:List Nat}{a w:World}{b i:Nat}{u:Value}(hb:b∈S\/a.heap.size<=b)(h:Ext S a w):Ext S a (w.setCell ⟨b,i,none⟩ u):=h.setCell hb u
theorem Ext.grown {S:List Nat}{a w w':World}{row:Option Nat}(h:Ext S a w)(hg:w.grownBy w' row)(hr:∀k,row=some k->k∈S\/a.heap.size<=k):Ext S a w':=
 ⟨hg.os.trans h.os,hg.tape.trans h.tape,hg.output.trans h.output,Nat.le_trans h.size hg.size,fun i hi hn=>
  (hg.block i (Nat.lt_of_lt_of_le hi h.size) (fun e=>by rcases hr i e.symm with h1|h1;exact hn h1;omega)).trans (h.block i hi hn)⟩
theorem Ext.cell {S:List Nat}{w w':World}(h:Ext S w w'){p:Addr}(hp:p.block<w.heap.size)(hn:p.block∉S):w'.cell? p=w.cell? p:=
 World.cell?_of_block (w:=w) (h.block p.block hp hn)
theorem Ext.of_below {w w':World}(h:Below w.heap.size w w')(S:List Nat):Ext S w w':=⟨h.os,h.tape,h.output,h.size,fun k hk _=>h.block k hk⟩
theorem Ext.nil {S:List Nat}{w w':World}(h:Ext [] w w'):Ext S w w':=h.mono (by simp)
theorem Ext.held {S:List Nat}{w w':World}(h:Ext S w w'){p:Addr}{v:Value}(hp:w.cell? p=some v)(hn:p.block∉S):w'.cell? p=some v:=
 (h.cell (World.block_lt_of_cell? w p hp) hn).trans hp
def Blk (w:World)(g:Nat)(t:TypeId)(cs:Array Value):Prop:=w.heap[g]? = some (.cells cs t (0,0))
section
variable {w w':World} {g:Nat} {t:TypeId} {cs:Array Value}
theorem Blk.lt (h:Blk w g t cs):g<w.heap.size:=by
 rcases Nat.lt_or_ge g w.heap.size with hlt|hge
 ·exact hlt
 ·unfold Blk at h;rw[Array.getElem?_eq_none hge] at h;cases h
theorem Blk.cell (h:Blk w g t cs)(i:Nat):w.cell? ⟨g,i,none⟩=cs[i]?:=cell_of_row w g i cs t (0,0) h
theorem Blk.frozen (h:Blk w g t cs)(i:Nat):w.frozen? ⟨g,i,none⟩=false:=by
 unfold Blk at h;simp[World.frozen?,h]
theorem Blk.both (h:Blk w g t cs):(∀i,w.cell? ⟨g,i,none⟩=cs[i]?)/\(∀i,w.frozen? ⟨g,i,none⟩=false):=⟨h.cell,h.frozen⟩
theorem Blk.new (w:World)(t:TypeId)(cs:Array Value):Blk (w.alloc (.cells cs t)) w.heap.size t cs:=by
 show(w.heap.push _)[w.heap.size]? = _
 simp
theorem Blk.new' (w:World)(t:TypeId)(cs:Array Value)(n:Nat)(hn:n=w.heap.size):Blk (w.alloc (.cells cs t)) n t cs:=by
 subst hn;exact Blk.new w t cs
theorem Blk.drew (h:Blk w g t cs):Blk w.drew g t cs:=h
theorem Blk.drewN (h:Blk w g t cs)(n:Nat):Blk (w.drewN n) g t cs:=h
theorem Blk.alloc (h:Blk w g t cs)(o:Obj):Blk (w.alloc o) g t cs:=(Below.heap_alloc w o g h.lt).trans h
theorem Blk.set_ (h:Blk w g t cs)(i:Nat)(u:Value):Blk (w.setCell ⟨g,i,none⟩ u) g t (cs.setIfInBounds i u):=by
 unfold Blk at h⊢;simp[World.setCell,Array.getElem?_modify,h]
theorem Blk.set_' (h:Blk w g t cs)(i:Nat)(u:Value)(cs':Array Value)(e:cs.setIfInBounds i u=cs'):Blk (w.setCell ⟨g,i,none⟩ u) g t cs':=e ▸ h.set_ i u
theorem Blk.far (h:Blk w g t cs){p:Addr}(hp:g≠p.block)(u:Value):Blk (w.setCell p u) g t cs:=(Below.heap_setCell w p u g hp).trans h
theorem Blk.ext {S:List Nat}(h:Blk w g t cs)(hb:Ext S w w')(hg:g∉S):Blk w' g t cs:=(hb.block g h.lt hg).trans h
end
def Hd (p:Prop):Prop:=p
theorem hd {p:Prop}(h:p):Hd p:=h
theorem Hd.out {p:Prop}(h:Hd p):p:=h
theorem Hd.o {p:Prop}(h:Hd p):p:=h
theorem Ak0 (p:Prop):Hd p=p:=rfl
attribute [irreducible] Hd
theorem er {S:List Nat}{w:World}:Ext S w w:=Ext.refl S w
theorem ms {α:Type}{a b:α}(h:a∈[b]):a=b:=List.mem_singleton.1 h
theorem nl {a b c:Nat}(h:a<b)(k:b<=c):a<c:=Nat.lt_of_lt_of_le h k
theorem nt {a b c:Nat}(h:a<=b)(k:b<=c):a<=c:=Nat.le_trans h k
theorem ijp {c:Prop}{i:Decidable c}(h:c){α:Type}{t e:α}:ite c t e=t:=if_pos h
theorem ijn {c:Prop}{i:Decidable c}(h:¬c){α:Type}{t e:α}:ite c t e=e:=if_neg h
theorem ils {α:Type}{l:List α}{i:Nat}{a:α}(h:l[i]? = some a):∃h:i<l.length,l[i]=a:=List.getElem?_eq_some_iff.1 h
theorem ilm {α:Type}{l:List α}{i:Nat}{a:α}(h:l[i]? = some a):a∈l:=List.mem_of_getElem? h
theorem Addr.add_mk (b o i:Nat):(⟨b,o,none⟩:Addr).add i=⟨b,o+i,none⟩:=by
 unfold Addr.add;split<;>simp_all
theorem Aic (x n:Int)(hn:1<=n) : -n<x.tmod n:=by
 by_cases h:x<0
 ·have h1:x = -(-x):=by omega
  rw[h1,Int.neg_tmod];have:=Int.tmod_lt_of_pos (-x) (b:=n) (by omega);omega
 ·have:=Int.tmod_nonneg n (Int.not_lt.1 h);omega
theorem Aid (x n:Int)(hn:1<=n):x.tmod n<n:=Int.tmod_lt_of_pos _ (by omega)
theorem Ae {k:IntKind}{a b:Int}(h:a=b):Ending.returned (.int k a)=.returned (.int k b):=by rw[h]
theorem Aa {a b:Bool}(h:a=b):Ending.returned (.bool a)=.returned (.bool b):=by rw[h]
def Cj (xs:List Int):Array Value:=(xs.map (Value.int .i64)).toArray
theorem PT:(∀(a:Act) (d:Tmp) (v:Value),a.put (some d) v={a with tmps:=a.tmps.setIfInBounds d v })/\(∀(a:Act) (v:Value),a.put none v=a)/\(∀(l:List Value) (i:Nat) (x:Value),l.toArray.setIfInBounds i x=(l.set i x).toArray)/\(∀(x y:Value) (l:List Value),(x :: l).set 0 y=y :: l)/\(∀(x y:Value) (l:List Value) (n:Nat),(x :: l).set (n+1) y=x :: l.set n y):=
 ⟨fun _ _ _=>rfl,fun _ _=>rfl,fun _ _ _=>by simp,fun _ _ _=>rfl,fun _ _ _ _=>rfl⟩
theorem TK:(∀(x:Oper) (l:List Oper) (n:Nat),(x :: l).take (n+1)=x :: l.take n)/\(∀l:List Oper,l.take 0=[])/\(∀(x:Oper) (l:List Oper) (n:Nat),(x :: l).drop (n+1)=l.drop n)/\(∀l:List Oper,l.drop 0=l):=
 ⟨fun _ _ _=>rfl,fun _=>rfl,fun _ _ _=>rfl,fun _=>rfl⟩
instance iV:Coe Int Value:=⟨fun x=>.int .i64 x⟩
instance iN:Coe Nat Value:=⟨fun x=>.int .i64 (x:Int)⟩
instance iA:Coe Nat Addr:=⟨fun b=>⟨b,0,none⟩⟩
set_option maxRecDepth 100000 in
theorem CL {p:Prop}(h:p:=by((go_simp;try go_bits);first|rfl|exact⟨rfl,rfl⟩)):p:=h
theorem jA {α:Type _}{a b:α}:a∈[b] ↔ a=b:=List.mem_singleton
theorem jB (w:World)(a:Addr){u:Value}(h:w.cell? a=some u):a.block<w.heap.size:=World.block_lt_of_cell? w a h
theorem jC {α:Type _}{a:α}{o:Option α}:a∈o.toList ↔ o=some a:=Option.mem_toList
theorem jD (n:Nat):n<=n:=Nat.le_refl n
theorem jE {α:Type _}{b:α}{l:List α}{a:α}:a∈b :: l ↔ a=b\/a∈l:=List.mem_cons
theorem jF (S:List Nat)(w:World):Ext S w w:=Ext.refl S w
theorem jG {α:Type _}{x y:List α}:(x ++ y).length=x.length+y.length:=List.length_append
theorem jH {α:Type _}{a:α}:¬a∈([]:List α):=List.not_mem_nil
theorem jI {α:Type _}(y:α){a:α}{l:List α}(h:a∈l):a∈y :: l:=List.mem_cons_of_mem y h
theorem jJ {α:Type _}{l:List α}{i:Nat}(h:i<l.length):l[i]? = some l[i]:=List.getElem?_eq_getElem h
theorem jK (w:World)(t:TypeId)(cs:Array Value):Blk (w.alloc (.cells cs t)) w.heap.size t cs:=Blk.new w t cs
theorem jL {S:List Nat}{a w:World}{b i:Nat}{u:Value}(h:b∈S\/a.heap.size<=b)(h2:Ext S a w):Ext S a (w.setCell ⟨b,i,none⟩ u):=Ext.setAt h h2
theorem jM {α:Type _}{x y:List α}{i:Nat}(h:x.length<=i):(x ++ y)[i]? = y[i-x.length]?:=List.getElem?_append_right h
theorem jN {α:Type _}{a:α}{s t:List α}:a∈s ++ t ↔ a∈s\/a∈t:=List.mem_append
theorem jO {α:Type _}{a:α}{l:List α}:a∈a :: l:=List.mem_cons_self
theorem jP {α:Type _}(x y z:List α):x ++ y ++ z=x ++ (y ++ z):=List.append_assoc x y z
theorem jQ (n:Nat):0<=n:=Nat.zero_le n
theorem jS {α:Type _}{a:α}:[a].length=1:=List.length_singleton
set_option maxRecDepth 100000 in
theorem EC {F A:Type}{P Q:F->A->Prop}{f:F}{a:A}(h2:Q f a)(h1:P f a:=by(intro w;go_simp;first|exact⟨rfl,rfl⟩|rfl)):∃f a,P f a/\Q f a:=⟨f,a,h1,h2⟩
end
structure Af where
 base:Int
 A:Option Addr
 cap:Nat
 ts:List (ByteArray×Int)
structure EH where
 k:Int
 op:Int
 lo:Int
 hi:Int
 n:Int
 m:Int
 buf:Int
 at_:Af
 A:Option Addr
 cap:Nat
inductive Ex where
 | mk (h:EH) (kids:List Ex)
structure SH where
 k:Int
 var:ByteArray
 lo:Int
 hi:Int
 step:Int
 vec:Bool
 cA:Option Addr
 cc:Nat
 conds:List Af
 A:Option Addr
 cap:Nat
 buf:Int
 at_:Af
 val:Ex
inductive St where
 | mk (h:SH) (body:List St)
structure Bf where
 name:ByteArray
 size:Int
 set:Bool
 A:Option Addr
 cap:Nat
 data:List Int
theorem Gs {P:Ex->Prop}(h:∀h ks,(∀e∈ks,P e)->P (.mk h ks)):∀e,P e
 | .mk a ks=>h a ks fun e _=>Gs h e
theorem Dn {P:St->Prop}(h:∀h ks,(∀e∈ks,P e)->P (.mk h ks)):∀e,P e
 | .mk a ks=>h a ks fun e _=>Dn h e
def Ex.h:Ex->EH|.mk h _=>h
def Ex.ks:Ex->List Ex|.mk _ ks=>ks
def St.h:St->SH|.mk h _=>h
def St.body:St->List St|.mk _ b=>b
def btw (x lo hi:Int):Bool:=decide (lo<=x)&&decide (x<=hi)
def Dt (x:Int):Bool:=btw x (-2147483648) 2147483647
def bdd (x:Int):Bool:=btw x (-100000) 100000
theorem Bu {x lo hi:Int}:btw x lo hi=true ↔ lo<=x/\x<=hi:=by simp[btw]
def ltS (a b:ByteArray):Bool:=Op.bytesLess a.toList b.toList
def eqS (a b:ByteArray):Bool:=a.toList==b.toList
def Fg (b:UInt8):Bool:=decide (97<=b.toNat)&&decide (b.toNat<=122)
def Jc (b:UInt8):Bool:=decide (48<=b.toNat)&&decide (b.toNat<=57)
def Cy (s:ByteArray):Bool:=match s.data.toList with
 | []=>false
 | b :: r=>decide (r.length<=7)&&Fg b&&r.all fun c=>Fg c||Jc c
def Lg (t:ByteArray×Int):Bool:=!bdd t.2||decide (t.2=0)
def unord:List (ByteArray×Int)->Bool
 | a :: b :: r=>!ltS a.1 b.1||unord (b :: r)
 | _=>false
def Fy (l:List ByteArray)(s:ByteArray):Bool:=l.any fun x=>eqS s x
def Fh (vars:List ByteArray)(t:ByteArray×Int):Bool:=!Fy vars t.1
def Cn (vars:List ByteArray)(a:Af):Int:=
 if 10<a.ts.length then 2 else if bdd a.base=false then 9 else if a.ts.any Lg then 9 else if unord a.ts then 7 else if a.ts.any (Fh vars) then 5 else 0
def El (a:Af):Bool:=decide (a.base=0)&&decide (a.ts.length=0)
mutual
def Al:Ex->Nat
 | .mk _ ks=>1+Ap ks
def Ap:List Ex->Nat
 | []=>0
 | e :: r=>Al e+Ap r
end
mutual
def Lh:Ex->Nat
 | .mk _ ks=>En ks+1
def En:List Ex->Nat
 | []=>0
 | e :: r=>max (Lh e) (En r)
end
def Jm (many level:Nat)(e:Ex):Bool:=decide (many+Al e<=32)&&decide (level+Lh e<=7)
def opN (op:Int):Int:=if op=15 then 3 else if btw op 4 10 then 2 else if btw op 11 14 then 1 else -1
def Bp (k op:Int):Int:=if k=1 then 0 else if k=2 then 0 else if k=3 then 0 else if k=4 then 1 else if k=5 then opN op else -1
def Lb (h:EH)(n:Nat):Bool:=decide (h.k=0)&&decide (h.op=0)&&decide (h.lo=0)&&decide (h.hi=0)&&decide (h.n=0)&&decide (h.m=0)&&decide (h.buf=0)&&El h.at_&&decide (n=0)
def Dc (h:EH):Bool:=
 if h.k=1 then decide (h.op=0)&&decide (h.lo=0)&&decide (h.hi=0)&&decide (h.m=0)&&decide (h.buf=0)&&El h.at_
 else if h.k=2 then decide (h.op=0)&&decide (h.lo=0)&&decide (h.hi=0)&&decide (h.n=0)&&decide (h.m=0)&&decide (h.buf=0)
 else if h.k=3 then decide (h.op=0)&&decide (h.lo=0)&&decide (h.hi=0)&&decide (h.n=0)&&decide (h.m=0)
 else if h.k=4 then decide (h.op=0)&&decide (h.hi=0)
 else if h.op=12 then decide (h.n=0)&&decide (h.m=0)&&decide (h.buf=0)&&El h.at_
 else if h.op=13\/h.op=14 then decide (h.lo=0)&&decide (h.hi=0)&&decide (h.m=0)&&decide (h.buf=0)&&El h.at_
 else decide (h.lo=0)&&decide (h.hi=0)&&decide (h.n=0)&&decide (h.m=0)&&decide (h.buf=0)&&El h.at_
def Hi (h:EH)(n:Nat):Bool:=Dc h&&decide ((n:Int)=Bp h.k h.op)
def Fi (h:EH):Bool:=
 if h.k=1 then Dt h.n
 else if h.k=4 then Dt h.lo&&btw h.n 1 100000&&btw h.m 1 262144
 else if h.k=5 then
  if h.op=12 then Dt h.lo&&Dt h.hi&&decide (h.lo<=h.hi)
  else if h.op=13 then btw h.n 1 31
  else if h.op=14 then btw h.n 1 2147483647
  else true
 else true
def Afa (nb:Nat)(h:EH):Bool:=decide ((h.k=3\/h.k=4)/\¬(0<=h.buf/\h.buf<nb))
def Fj (vars:List ByteArray)(nb:Nat)(h:EH)(n:Nat):Int:=
 if Bp h.k h.op<0 then 4 else if Hi h n=false then 3 else if Fi h=false then 9 else if Afa nb h then 1 else Cn vars h.at_
mutual
def Bs (vars:List ByteArray)(nb:Nat):Ex->Int
 | .mk h ks=>if Fj vars nb h ks.length=0 then Ow vars nb ks else Fj vars nb h ks.length
def Ow (vars:List ByteArray)(nb:Nat):List Ex->Int
 | []=>0
 | e :: r=>if Bs vars nb e=0 then Ow vars nb r else Bs vars nb e
end
def Gr (h:SH):Bool:=!eqS h.var ⟨#[]⟩||decide (h.lo≠0)||decide (h.hi≠0)||decide (h.step≠0)||h.vec
def Di (h:SH):Bool:=decide (h.buf≠0) || !El h.at_ || !Lb h.val.h h.val.ks.length
def Ga (h:SH)(nb:Nat):Bool:=
 if h.k=1 then decide (0<h.conds.length)||Di h
 else if h.k=2 then Gr h||Di h
 else Gr h||decide (0<h.conds.length)||decide (0<nb)
def Hr (s:St):Bool:=decide (s.h.k≠3)
def Gb {α:Type}(f:α->Int):List α->Int
 | []=>0
 | a :: r=>if f a=0 then Gb f r else f a
def Eb (vars:List ByteArray)(nb:Nat)(h:SH)(body:List St):Int:=
 if h.k=1 then
  if Cy h.var=false then 5 else if Fy vars h.var then 6
  else if bdd h.lo=false\/bdd h.hi=false\/btw h.step 1 100000=false then 9
  else if h.vec=true/\body.any Hr=true then 3 else 0
 else if h.k=2 then
  if btw h.conds.length 1 4=false then 3 else Gb (Cn vars) h.conds
 else
  if btw h.buf 0 (nb-1)=false then 1 else if Cn vars h.at_=0 then(if Jm 0 1 h.val then Bs vars nb h.val else 2) else Cn vars h.at_
def Ff (vars:List ByteArray)(nb before:Nat)(h:SH)(body:List St):Int:=
 if 3000<=before\/h.k=1/\8<=vars.length then 2 else if btw h.k 1 3=false then 4 else if Ga h body.length then 3 else Eb vars nb h body
mutual
def Hm:St->Nat
 | .mk _ b=>1+Bk b
def Bk:List St->Nat
 | []=>0
 | s :: r=>Hm s+Bk r
end
def Aw (vars:List ByteArray)(h:SH):List ByteArray:=if h.k=1 then vars ++ [h.var] else vars
mutual
def stE (nb:Nat)(vars:List ByteArray)(before:Nat):St->Int
 | .mk h b=>if Ff vars nb before h b=0 then Eo nb (Aw vars h) (before+1) b else Ff vars nb before h b
def Eo (nb:Nat)(vars:List ByteArray)(before:Nat):List St->Int
 | []=>0
 | s :: r=>if stE nb vars before s=0 then Eo nb vars (before+Hm s) r else stE nb vars before s
end
def Ki (ahead:List Bf)(b:Bf):Int:=
 if Cy b.name=false then 5 else if ahead.any (fun x=>eqS x.name b.name) then 6 else if btw b.size 1 262144=false then 9
 else if 0<b.data.length/\((b.data.length:Int)≠b.size\/b.set=false) then 3 else if b.data.any (fun x=>!Dt x) then 9 else 0
def Ih:List Bf->List Bf->Int
 | _,[]=>0
 | ahead,b :: r=>if Ki ahead b=0 then Ih (ahead ++ [b]) r else Ki ahead b
def Iu:List Bf->Int
 | []=>0
 | b :: r=>b.size+Iu r
def Dy (l:List Bf):Int:=if 400<l.length then 2 else if Ih [] l=0 then(if 262144<Iu l then 2 else 0) else Ih [] l
def Du (bs:List Bf)(body:List St):Int:=if Dy bs=0 then Eo bs.length [] 0 body else Dy bs
abbrev Env:=List (ByteArray×Int)
def lk (env:Env)(v:ByteArray):Int:=((env.find? fun p=>eqS p.1 v).map Prod.snd).getD 0
def evA (env:Env)(a:Af):Int:=a.ts.foldl (fun n t=>n+t.2*lk env t.1) a.base
def Ar (h:SH):Nat:=if h.hi<=h.lo then 0 else((h.hi-h.lo+h.step-1) / h.step).toNat
def Dj (h:SH)(k:Nat):Int:=h.lo+k*h.step
def Bh (env:Env)(h:SH)(k:Nat):Env:=env ++ [(h.var,Dj h k)]
def Ec (env:Env)(h:SH):Bool:=h.conds.all fun a=>decide (0<=evA env a)
mutual
def Jd (env:Env):St->Nat
 | .mk h b=>1+(if h.k=3 then 0 else if h.k=2 then(if Ec env h then Av env b else 0)
   else if h.vec then Ar h*(1+b.length) else((List.range (Ar h)).map fun k=>1+Av (Bh env h k) b).sum)
def Av (env:Env):List St->Nat
 | []=>0
 | s :: r=>Jd env s+Av env r
end
mutual
def Be:St->Nat
 | .mk h b=>(if h.k=3 then 1 else 0)+Ab b
def Ab:List St->Nat
 | []=>0
 | s :: r=>Be s+Ab r
end
structure Az where
 no:Nat
 s:SH
 env:Env
def Ct (env:Env)(h:SH):Nat->List St->List Az
 | _,[]=>[]
 | no,s :: r=>((List.range (Ar h)).map fun k=>⟨no,s.h,Bh env h k⟩) ++ Ct env h (no+1) r
mutual
def Cv (env:Env)(no:Nat):St->List Az
 | .mk h b=>if h.k=3 then [⟨no,h,env⟩] else if h.k=2 then(if Ec env h then Au env no b else [])
   else if h.vec then Ct env h no b else((List.range (Ar h)).map fun k=>Au (Bh env h k) no b).flatten
def Au (env:Env)(no:Nat):List St->List Az
 | []=>[]
 | s :: r=>Cv env no s ++ Au env (no+Be s) r
end
def Hj (bs:List Bf)(k:Int):Int:=((bs[k.toNat]?).map Bf.size).getD 0
def inX (bs:List Bf)(env:Env)(h:EH):Bool:=
 if h.k=2 then Dt (evA env h.at_)
 else if h.k=3 then decide (0<=evA env h.at_)&&decide (evA env h.at_<Hj bs h.buf)
 else if h.k=4 then decide (0<=evA env h.at_)&&decide (evA env h.at_+h.n*(h.m-1)<Hj bs h.buf)
 else true
mutual
def inE (bs:List Bf)(env:Env):Ex->Bool
 | .mk h ks=>inX bs env h&&Ox bs env ks
def Ox (bs:List Bf)(env:Env):List Ex->Bool
 | []=>true
 | e :: r=>inE bs env e&&Ox bs env r
end
def inI (bs:List Bf)(i:Az):Bool:=decide (0<=evA i.env i.s.at_)&&decide (evA i.env i.s.at_<Hj bs i.s.buf)&&inE bs i.env i.s.val
def Cd (bs:List Bf)(body:List St):Int:=
 if Du bs body=0 then(if 2500000<Av [] body then 2 else if(Au [] 0 body).all (inI bs) then 0 else 9) else Du bs body
def Stm (w:World)(base g n:Nat):Prop:=∃(A:Option Addr) (len cap:Nat) (k:Int),
 Blk w g 25 #[.slice A len cap,k]/\base<=g/\0<=k/\k+n<=1152921504606846976/\len<=9223372036854775807/\
 (0<len->∃b o,A=some ⟨b,o,none⟩/\b<base/\∀i,i<len->∃x,w.cell? ⟨b,o+i,none⟩=some (.int .i64 x))
theorem Stm.lt {w:World}{base g n:Nat}(h:Stm w base g n):g<w.heap.size:=by
 obtain⟨A,len,cap,k,h,_⟩:=h;exact h.lt
theorem Stm.base {w:World}{base g n:Nat}(h:Stm w base g n):base<=g:=by
 obtain⟨A,len,cap,k,_,h,_⟩:=h;exact h
theorem Stm.less {w:World}{base g n m:Nat}(h:Stm w base g n)(hm:m<=n):Stm w base g m:=by
 obtain⟨A,len,cap,k,h1,h2,h3,h4,h5⟩:=h;exact⟨A,len,cap,k,h1,h2,h3,by omega,h5⟩
theorem Stm.ext {S:List Nat}{w w':World}{base g n:Nat}(h:Stm w base g n)(he:Ext S w w')(hg:g∉S)(hS:∀x,x∈S->base<=x):Stm w' base g n:=by
 obtain⟨A,len,cap,k,h1,h2,h3,h4,h5,h6⟩:=h;refine⟨A,len,cap,k,h1.ext he hg,h2,h3,h4,h5,fun hl=>?_⟩
 obtain⟨b,o,rfl,hb,hc⟩:=h6 hl;refine⟨b,o,rfl,hb,fun i hi=>?_⟩
 obtain⟨x,hx⟩:=hc i hi;exact⟨x,he.held hx (fun hm=>by have:=hS _ hm;simp at this;omega)⟩
theorem Stm.alloc {w:World}{base g n:Nat}(h:Stm w base g n)(o:Obj):Stm (w.alloc o) base g n:=h.ext (S:=[]) ((jF _ _).alloc o) (by simp) (by simp)
theorem Un (x n:Int)(w:World)(hn:n<=9223372036854775807) :
  Calls prog 33 #[x,n] w fun e w'=>∃r:Int,e=.returned (.int .i64 r)/\0<=r/\(1<=n->r<n)/\w=w':=by
 by_cases h1:n<1
 ·go_enter func33,ntmps33
  go_wp2
  go_ret
  exact⟨0,rfl,Int.le_refl _,fun h=>by omega,rfl⟩
 ·have a1:=Aic x n (by omega);have a2:=Aid x n (by omega);go_enter func33,ntmps33
  go_wp2
  ·go_ret
   exact⟨_,rfl,by omega,by omega,rfl⟩
  ·go_ret
   exact⟨_,rfl,by omega,by omega,rfl⟩
def Acf (base g n:Nat)(w:World)(R:Int->Prop)(e:Ending)(w':World):Prop:=
 ∃r:Int,e=.returned (.int .i64 r)/\R r/\Ext [g] w w'/\Stm w' base g n
theorem Cb (base g n:Nat)(m:Int)(w:World)(h:Stm w base g (n+1))(hm:m<=9223372036854775807) :
  Calls prog 9 #[.pointer (some g),m] w (Acf base g n w fun r=>0<=r/\(1<=m->r<m)):=by
 obtain⟨A,len,cap,k,hB,a2,hk,af,a7,hl⟩:=h;obtain⟨hc,hf⟩:=hB.both
 have a1:∀j,Ext [g] w ((w.setCell ⟨g,1,none⟩ (.int .i64 (k+1))).drewN j)/\Stm ((w.setCell ⟨g,1,none⟩ (.int .i64 (k+1))).drewN j) base g n:=by
  intro j;have hE:Ext [g] w ((w.setCell ⟨g,1,none⟩ (.int .i64 (k+1))).drewN j):=((jF _ _).setCell (.inl (by simp)) _).drewN j;refine⟨hE,A,len,cap,k+1,(hB.set_' 1 _ _ rfl).drewN j,a2,by omega,by omega,a7,fun h0=>?_⟩
  obtain⟨b,o,rfl,hb,a6⟩:=hl h0;refine⟨b,o,rfl,hb,fun i hi=>?_⟩
  obtain⟨x,hx⟩:=a6 i hi;exact⟨x,hE.held hx (by simp;omega)⟩
 have HE:=hd a1;clear a1;by_cases h0:len=0
 ·subst h0;clear hl;go_enter func9,ntmps9
  go_wp2_with (go_at_call 33;refine(Un _ _ _ (by omega)).mono ?_;rintro e w' ⟨r,rfl,a8,aa,rfl⟩)
  go_ret
  exact⟨_,rfl,⟨a8,aa⟩,HE.o 0⟩
 ·obtain⟨b,o,rfl,hb,a6⟩:=hl (by omega);clear hl
  obtain⟨x,hx⟩:=a6 (k % len).toNat (by
   have:=Int.emod_lt_of_pos k (b:=(len:Int)) (by omega);have:=Int.emod_nonneg k (b:=(len:Int)) (by omega);omega)
  clear a6;have ab:((len:Int)==0)=false:=by simp;omega
  have ac:0<=k / len:=Int.ediv_nonneg hk (by omega);have ad:0<=k % len:=Int.emod_nonneg _ (by omega);have ae:k % len<len:=Int.emod_lt_of_pos _ (by omega);go_enter func9,ntmps9
  go_wp2_with fail
  go_quiet (fail)
  go_wp2_with fail
  go_quiet (fail)
  go_wp2_with (go_at_call 33;refine(Un _ _ _ (by omega)).mono ?_;rintro e w' ⟨r,rfl,a8,aa,rfl⟩)
  go_ret
  exact⟨_,rfl,⟨a8,aa⟩,HE.o _⟩
theorem Ce (base g n:Nat)(lo hi:Int)(w:World)(h:Stm w base g (n+1))(h1 : -1152921504606846976<=lo/\lo<=1152921504606846976)(h2 : -1152921504606846976<=hi/\hi<=1152921504606846976) :
  Calls prog 11 #[.pointer (some g),lo,hi] w (Acf base g n w fun r=>lo<=r/\(r<=lo\/r<=hi)):=by
 obtain⟨a1,a2⟩:=h1;obtain⟨b1,b2⟩:=h2;by_cases a8:hi<lo
 ·go_enter func11,ntmps11
  go_wp2_with fail
  go_ret
  exact⟨_,rfl,⟨by omega,by omega⟩,jF _ _,h.less (by omega)⟩
 ·go_enter func11,ntmps11
  go_wp2_with fail
  refine(Cb base g n _ _ h (by omega)).mono ?_
  rintro e w' ⟨r,rfl,⟨a7,a6⟩,hE,hS⟩;replace a6:=a6 (by omega);go_wp2_with fail
  go_ret
  exact⟨_,rfl,⟨by omega,by omega⟩,hE,hS⟩
def Aif (base g n:Nat)(w:World)(e:Ending)(w':World):Prop:=
 ∃b:Bool,e=.returned (.bool b)/\Ext [g] w w'/\Stm w' base g n
theorem Gf (base g n:Nat)(m:Int)(w:World)(h:Stm w base g (n+1))(hm:m<=9223372036854775807) :
  Calls prog 13 #[.pointer (some g),m] w (Aif base g n w):=by
 go_enter func13,ntmps13
 go_wp2_with (go_at_call 9;refine(Cb base g n _ _ h (by omega)).mono ?_;rintro e w' ⟨r,rfl,⟨a1,a2⟩,hE,hS⟩)
 go_ret
 exact⟨_,rfl,hE,hS⟩
theorem Cc (base g n b cap:Nat)(t:TypeId)(xs:List Int)(w:World)(h:Stm w base g (n+1))(hb:Blk w b t (Cj xs))(hbg:b≠g)(hx:0<xs.length/\xs.length<=9223372036854775807) :
  Calls prog 12 #[.pointer (some g),.slice (some b) xs.length cap] w (Acf base g n w fun r=>r∈xs):=by
 obtain⟨a7,a8⟩:=hx;have HB:=hd hb;clear hb;go_enter func12,ntmps12
 go_wp2_with fail
 refine(Cb base g n _ _ h (by omega)).mono ?_
 rintro e w' ⟨r,rfl,⟨aa,a2⟩,hE,hS⟩;replace a2:=a2 (by omega)
 have hc:w'.cell? ⟨b,0+r.toNat,none⟩=some (.int .i64 (xs[r.toNat]'(by omega))):=by
  rw[(HB.o.ext hE (by simpa using hbg)).cell];have a6:r.toNat<xs.length:=by omega
  simp[Cj,a6]
 have a1:xs[r.toNat]'(by omega)∈xs:=List.getElem_mem _;generalize xs[r.toNat]'(by omega)=y at hc a1;have HM:=hd a1;clear a1;rw[Nat.zero_add] at hc;go_wp2_with fail
 go_ret
 exact⟨_,rfl,HM.o,hE,hS⟩
theorem Xs (base g n:Nat)(w:World)(h:Stm w base g (n+3)) :
  Calls prog 151 #[.pointer (some g)] w (Acf base g n w fun r=>-2147483648<=r/\r<=2147483647):=by
 go_enter func151,ntmps151
 go_wp2_with fail
 refine(Cb base g (n+2) _ _ h (by omega)).mono ?_
 rintro e w1 ⟨r,rfl,⟨aa,a7⟩,hE,hS⟩;replace a7:=a7 (by omega)
 go_wp2_with (first
  | (go_at_call 9;refine(Cb base g _ _ _ (by assumption) (by omega)).mono ?_;rintro e w2 ⟨q,rfl,⟨a8,a6⟩,a1,a2⟩;replace a6:=a6 (by omega))
  | (go_at_call 11;refine(Ce base g _ _ _ _ (by assumption) (by omega) (by omega)).mono ?_;rintro e w2 ⟨q,rfl,⟨a8,a6⟩,a1,a2⟩))
 ·go_ret
  exact⟨_,rfl,⟨by omega,by omega⟩,hE.trans a1,a2.less (by omega)⟩
 ·go_ret
  exact⟨_,rfl,⟨by omega,by omega⟩,hE.trans a1,a2.less (by omega)⟩
 ·rename_i hE3 hS3 _ _ _ _ _ _
  go_ret
  exact⟨_,rfl,⟨by omega,by omega⟩,(hE.trans (by assumption)).trans a1,a2.less (by omega)⟩
 ·go_ret
  exact⟨_,rfl,⟨by omega,by omega⟩,hE.trans a1,a2.less (by omega)⟩
section
structure Ba where
 α:Type
 d:α
 f:α->Value
 V:α->World->Prop
section
variable {P:Program} {ops:Array Oper} {J:Nat->World->Prop} {R:World->World->Prop} {S:Nat->Option Ba}
def Xt (P:Program)(J':World->Prop)(V:Value->World->Prop):Result Next->Prop
 | .ok (.value u) w'=>V u w'/\J' w'
 | .ok .skip w'=>V undef w'/\J' w'
 | .ok (.enter f args) w'=>Calls P f args w' fun e w''=>∃v,e=.returned v/\V v w''/\J' w''
 | _=>False
def Je (P:Program)(o:Oper)(a:Act)(J':World->Prop)(V:Value->World->Prop)(w:World):Prop:=Xt P J' V ((execOp a.eval o).run P w)
def Wf (u:Value)(w:World):Result Next->Prop
 | .ok (.value v) w'=>w'=w/\v=u
 | .ok .skip w'=>w'=w/\undef=u
 | _=>False
def Lq (P:Program)(o:Oper)(a:Act)(u:Value)(w:World):Prop:=Wf u w ((execOp a.eval o).run P w)
theorem Wg {o:Oper}{a:Act}{u v:Value}{w:World}(h:Lq P o a u w)(k:Lq P o a v w):u=v:=by
 unfold Lq at h k;generalize (execOp a.eval o).run P w=r at *;cases r with
 | ok n w'=>
  cases n<;>simp only[Wf] at h k
  case value x=>exact h.2.symm.trans k.2
  case skip=>exact h.2.symm.trans k.2
 | halt x w'=>exact h.elim
def upd (F:Nat->World->Prop)(i:Nat)(A:World->Prop):Nat->World->Prop:=fun j w=>if j=i then A w else F j w
theorem Afp {F:Nat->World->Prop}{i j:Nat}{A B:World->Prop}(h:i≠j):upd (upd F i A) j B=upd (upd F j B) i A:=by
 funext k w
 unfold upd;by_cases h1:k=i
 ·subst h1;simp[h]
 ·by_cases h2:k=j
  ·subst h2;simp[Ne.symm h]
  ·simp[h1,h2]
theorem Gy {o:Oper}(hs:∀cs b,o.op≠.select cs b){a:Act}{dst:Option Tmp}{v:Value}(h:∀d,dst=some d->d∉o.looksAt ops){J':World->Prop}{V:Value->World->Prop}{w:World} :
  Je P o (a.put dst v) J' V w ↔ Je P o a J' V w:=by
 unfold Je;rw[execOp_put (ops:=ops) o hs a dst v h]
theorem Fv {o:Oper}(hs:∀cs b,o.op≠.select cs b){a:Act}{dst:Option Tmp}{v:Value}(h:∀d,dst=some d->d∉o.looksAt ops){u:Value}{w:World} :
  Lq P o (a.put dst v) u w ↔ Lq P o a u w:=by
 unfold Lq;rw[execOp_put (ops:=ops) o hs a dst v h]
theorem Wh {o:Oper}{a:Act}{J':World->Prop}{V:Value->World->Prop}{w:World}{K:Act->World->Prop}{Q:Exit->Act->World->Prop}(h:Je P o a J' V w)
  (hK:∀v w',V v w'->J' w'->K (a.put o.dst v) w'):o.wp P a w K Q:=by
 unfold Je at h;unfold Oper.wp;generalize (execOp a.eval o).run P w=r at *;cases r with
 | ok n w'=>
  cases n<;>simp only[Xt] at h<;>simp only[Oper.upon]
  case value u=>exact hK _ _ h.1 h.2
  case skip=>exact hK _ _ h.1 h.2
  case enter f args=>exact h.mono fun e w'' ⟨v,he,hv,hj⟩=>by subst he;exact hK _ _ hv hj
 | halt x w'=>exact h.elim
theorem Xu {o:Oper}{a:Act}{u:Value}{w:World}{K:Act->World->Prop}{Q:Exit->Act->World->Prop}(h:Lq P o a u w)(hK:K (a.put o.dst u) w):o.wp P a w K Q:=by
 unfold Lq at h;unfold Oper.wp;generalize (execOp a.eval o).run P w=r at *;cases r with
 | ok n w'=>
  cases n<;>simp only[Wf] at h<;>simp only[Oper.upon]
  case value v=>obtain⟨rfl,rfl⟩:=h;exact hK
  case skip=>obtain⟨rfl,rfl⟩:=h;exact hK
 | halt x w'=>exact h.elim
def Ir (ops:Array Oper)(p:Nat):Bool:=
 Region.noSelect ops&&decide (p<=ops.size)&&(List.range ops.size).all fun i=>match ops[i]? with
  | none=>false
  | some oi=>(oi.after.all fun e=>!Region.binds .any e||decide (e.on<i)) &&
    if i<p then(List.range i).all fun j=>(oi.after.any fun e=>Region.binds .any e&&e.on==j)||match ops[j]? with|some oj=>oj.apart ops oi|none=>false
    else(List.range i).all fun j=>(List.range i).any fun d=>match ops[i-d]? with|some ok=>decide (j<i-d)&&ok.after.any fun e=>Region.binds .any e&&e.on==j|none=>false
theorem Gz {p:Nat}(h:Ir ops p=true){i:Nat}{oi:Oper}(hi:ops[i]? = some oi) :
  (∀e∈oi.after,Region.binds .any e=true->e.on<i)/\
  (i<p->∀j oj,j<i->ops[j]? = some oj->(∀e∈oi.after,Region.binds .any e=true->e.on≠j)->oj.apart ops oi=true)/\
  (p<=i->∀j,j<i->∃k ok,j<k/\k<=i/\ops[k]? = some ok/\∃e∈ok.after,Region.binds .any e=true/\e.on=j):=by
 simp only[Ir,Bool.and_eq_true,List.all_eq_true,List.mem_range] at h;have a1:i<ops.size:=(Array.getElem?_eq_some_iff.1 hi).1;have h1:=h.2 i a1;simp only[hi,Bool.and_eq_true,Array.all_eq_true_iff_forall_mem,Bool.or_eq_true,Bool.not_eq_true',decide_eq_true_eq] at h1;refine⟨fun e he hb=>(h1.1 e he).resolve_left (by simp[hb]),fun hip j oj hj hoj hno=>?_,fun hip j hj=>?_⟩
 ·have h2:=h1.2;rw[if_pos hip] at h2;simp only[List.all_eq_true,List.mem_range,Bool.or_eq_true] at h2;rcases h2 j hj with h2|h2
  ·obtain⟨e,he,hb⟩:=Array.any_eq_true'.1 h2;simp only[Bool.and_eq_true,beq_iff_eq] at hb;exact absurd hb.2 (hno e he hb.1)
  ·simpa[hoj] using h2
 ·have h2:=h1.2;rw[if_neg (by omega)] at h2;simp only[List.all_eq_true,List.mem_range,List.any_eq_true] at h2;obtain⟨d,hd,h3⟩:=h2 j hj;cases hk:ops[i-d]? with
  | none=>simp[hk] at h3
  | some ok=>
   simp only[hk,Bool.and_eq_true,decide_eq_true_eq] at h3;obtain⟨e,he,hb⟩:=Array.any_eq_true'.1 h3.2;simp only[Bool.and_eq_true,beq_iff_eq] at hb;exact⟨i-d,ok,h3.1,by omega,hk,e,he,hb⟩
def Aai (ops:Array Oper)(listed:Array Bool):Prop:=∀k ok,ops[k]? = some ok->listed.getD k false=true->∀e∈ok.after,Region.binds .any e=true->listed.getD e.on false=true
theorem Aai.set {listed:Array Bool}(h:Aai ops listed){i:Nat}{oi:Oper}(hi:ops[i]? = some oi)(hall:∀e∈oi.after,Region.binds .any e=true->listed.getD e.on false=true):Aai ops (listed.setIfInBounds i true):=by
 intro k ok hk hl e he hb;by_cases a1:k=i
 ·subst a1;rw[hi] at hk;cases hk
  exact getD_set_true (hall e he hb)
 ·rw[getD_set_ne false (Ne.symm a1)] at hl;exact getD_set_true (h k ok hk hl e he hb)
theorem Rn {p:Nat}(hB:Ir ops p=true){listed:Array Bool}(hsh:Aai ops listed){i:Nat}{oi:Oper}(hi:ops[i]? = some oi)(hip:p<=i)
  (hall:∀e∈oi.after,Region.binds .any e=true->listed.getD e.on false=true):∀d j,i-j<=d->j<i->listed.getD j false=true:=by
 intro d
 induction d with
 | zero=>intro j h1 h2;omega
 | succ d ih=>
  intro j h1 h2;obtain⟨k,ok,a8,aa,a1,e,he,hb,a2⟩:=(Gz hB hi).2.2 hip j h2;rcases Nat.lt_or_ge k i with a7|ab
  ·have:=hsh k ok a1 (ih k (by omega) a7) e he hb;rw[a2] at this;exact this
  ·have a6:k=i:=by omega
   subst a6;rw[hi] at a1;cases a1
   have:=hall e he hb;rw[a2] at this;exact this
theorem Afq {p:Nat}(hB:Ir ops p=true)(j:Nat)(o:Oper)(cs:Array SelectCase)(b:Bool)(ho:ops[j]? = some o):o.op≠.select cs b:=by
 simp only[Ir,Bool.and_eq_true] at hB;exact Region.noSelect_spec hB.1.1 j o cs b ho
theorem Wi {p:Nat}(hB:Ir ops p=true):p<=ops.size:=by
 simp only[Ir,Bool.and_eq_true,decide_eq_true_eq] at hB;exact hB.1.2
theorem Og {listed:Array Bool}{j:Nat}(hj:j<listed.size)(h:¬listed.getD j true=false):listed.getD j false=true:=by
 simp[Array.getElem?_eq_getElem hj] at h⊢;exact h
theorem Jf {listed:Array Bool}{j:Nat}(hj:j<listed.size)(h:listed.getD j false=true):¬listed.getD j true=false:=by
 simp[Array.getElem?_eq_getElem hj] at h⊢;exact h
theorem Ro {p:Nat}{Q':Exit->Act->World->Prop}(hB:Ir ops p=true) :
  ∀(l:List Oper) (k:Nat) (listed:Array Bool) (a:Act) (w:World),p<=k->listed.size=ops.size->k+l.length=ops.size->(∀j,l[j]? = ops[k+j]?)->
   (∀j,j<ops.size->(listed.getD j true=false ↔ k<=j))->Aai ops listed->wpList P ops Q' l a w->wpAny P .any ops Q' l.length listed a w
 | [],k,listed,a,w,hp,hsz,hlen,hl,hun,hsh,h=>by
  refine⟨?_,h⟩
  apply List.eq_nil_iff_forall_not_mem.2
  intro i hi;obtain⟨h0,o,ho,_⟩:=mem_ready.1 hi;have a8:i<ops.size:=(Array.getElem?_eq_some_iff.1 ho).1;have:=(hun i a8).1 h0;simp at hlen;omega
 | o :: l,k,listed,a,w,hp,hsz,hlen,hl,hun,hsh,h=>by
  have hk:ops[k]? = some o:=by simpa using(hl 0).symm
  have aa:k<ops.size:=(Array.getElem?_eq_some_iff.1 hk).1
  have a1:k∈Region.ready .any ops listed:=by
   refine mem_ready.2 ⟨(hun k aa).2 (jD _),o,hk,fun e he hb=>?_⟩
   have ab:=(Gz hB hk).1 e he hb;exact Og (by omega) (fun hg=>by have:=(hun e.on (by omega)).1 hg;omega)
  refine⟨fun hr=>(by rw[hr] at a1;cases a1),fun i hi=>?_⟩
  obtain⟨h0,oi,a2,a7⟩:=mem_ready.1 hi;have a8:i<ops.size:=(Array.getElem?_eq_some_iff.1 a2).1;have af:k<=i:=(hun i a8).1 h0
  have ad:i=k:=by
   rcases Nat.lt_or_ge k i with ab|ag
   ·exfalso
    exact Jf (by omega) (Rn hB hsh a2 (by omega) a7 _ k (jD _) ab) ((hun k aa).2 (jD _))
   ·omega
  subst ad
  have a6:∀a' w',wpList P ops Q' l a' w'->wpAny P .any ops Q' l.length (listed.setIfInBounds i true) a' w':=fun a' w' h'=>
   Ro hB l (i+1) _ a' w' (by omega) (by simpa using hsz) (by simp at hlen;omega) (fun j=>by have:=hl (j+1);simpa[Nat.add_assoc,Nat.add_comm 1 j] using this) (fun j hj=>by
    by_cases ac:j=i
    ·subst ac;simp[show j<listed.size by omega]
    ·rw[getD_set_ne true (Ne.symm ac),hun j hj];omega) (hsh.set a2 a7) h'
  unfold wpOp;rw[a2];have ae:oi=o:=by rw[hk] at a2;exact(Option.some.inj a2).symm
  subst ae;unfold wpList at h;show if Region.wanted oi (yielded ops a.tmps)=true then _ else _
  split
  ·rename_i hw;rw[if_pos hw] at h;exact h.imp (Oper.wp_mono a6) id
  ·rename_i hw;rw[if_neg hw] at h;exact a6 _ _ h
def Hn:Nat->List Oper->List (Nat×Oper)
 | _,[]=>[]
 | k,o :: l=>(k,o) :: Hn (k+1) l
theorem Nd:∀(l:List Oper) (k:Nat),(Hn k l).length=l.length
 | [],_=>rfl
 | _ :: l,k=>by simp[Hn,Nd l]
theorem Np:∀(l:List Oper) (k j:Nat) (o:Oper),(j,o)∈Hn k l ↔ k<=j/\l[j-k]? = some o
 | [],_,_,_=>by simp[Hn]
 | x :: l,k,j,o=>by
  simp only[Hn,jE,Prod.mk.injEq,Np l (k+1) j o];rcases Nat.lt_trichotomy j k with h|h|h
  ·constructor
   ·rintro(⟨h1,_⟩|⟨h1,_⟩)<;>omega
   ·rintro⟨h1,_⟩;omega
  ·subst h;simp only[Nat.sub_self,List.getElem?_cons_zero,true_and,jD,Option.some.injEq];constructor
   ·rintro(h1|⟨h1,_⟩)
    ·exact h1.symm
    ·omega
   ·exact fun h1=>.inl h1.symm
  ·obtain⟨d,rfl⟩:∃d,j=k+1+d:=⟨j-k-1,by omega⟩;have e1:k+1+d-k=d+1:=by omega
   have e2:k+1+d-(k+1)=d:=by omega
   rw[e1,e2,List.getElem?_cons_succ];constructor
   ·rintro(⟨h1,_⟩|⟨_,h2⟩)
    ·omega
    ·exact⟨by omega,h2⟩
   ·rintro⟨_,h2⟩;exact .inr ⟨by omega,h2⟩
theorem Nf:∀(l:List Oper) (k:Nat),((Hn k l).map (·.1)).Pairwise (· < ·)
 | [],_=>by simp[Hn]
 | x :: l,k=>by
  simp only[Hn,List.map_cons,List.pairwise_cons];refine⟨fun j hj=>?_,Nf l (k+1)⟩
  obtain⟨⟨i,o⟩,hm,rfl⟩:=List.mem_map.1 hj;have:=(Np l (k+1) i o).1 hm;simp;omega
end
structure Fp (ops:Array Oper)(i:Nat)(r:Nat->Bool):Prop where
 mine:r i=true
 ready:∀oi,ops[i]? = some oi->∀e∈oi.after,Region.binds .any e=true->r e.on=false
 shut:∀j oj,ops[j]? = some oj->r j=false->∀e∈oj.after,Region.binds .any e=true->r e.on=false
def off (r:Nat->Bool)(i:Nat):Nat->Bool:=fun j=>r j && !(j==i)
theorem Fp.later {ops:Array Oper}{i:Nat}{r:Nat->Bool}(h:Fp ops i r)(j:Nat)(hj:(ops[j]?.map fun oj=>oj.after.any fun e=>Region.binds .any e&&e.on==i)=some true):r j=true:=by
 cases ho:ops[j]? with
 | none=>rw[ho] at hj;cases hj
 | some oj=>
  rw[ho] at hj;simp only[Option.map_some,Option.some.injEq] at hj;obtain⟨e,he,hb⟩:=Array.any_eq_true'.1 hj;simp only[Bool.and_eq_true,beq_iff_eq] at hb;cases hr:r j with
  | true=>rfl
  | false=>
   have:=h.shut j oj ho hr e he hb.1;rw[hb.2,h.mine] at this;cases this
theorem Lr {a:Array Bool}{i:Nat}(hi:i<a.size)(h:a.getD i false=true):a.getD i true=true:=by
 simp[Array.getD_eq_getD_getElem?,hi] at h⊢;exact h
theorem Rp {a:Array Bool}{i:Nat}(hi:i<a.size)(h:a.getD i true=true):a.getD i false=true:=by
 simp[Array.getD_eq_getD_getElem?,hi] at h⊢;exact h
def rem (listed:Array Bool):Nat->Bool:=fun j=>!(listed.getD j true)
end
section
section
variable {P:Program} {ops:Array Oper} {p:Nat} {J:(Nat->Bool)->World->Prop} {R:Nat->World->World->Prop} {S:Nat->Option Ba}
def Ks (P:Program)(ops:Array Oper)(p:Nat)(J:(Nat->Bool)->World->Prop)(R:Nat->World->World->Prop)(S:Nat->Option Ba)(Q:Act->World->Prop):List (Nat×Oper)->Act->(Nat->World->Prop)->Prop
 | [],a,F=>∀w r,(∀j,j<ops.size->r j=decide (p<=j))->J r w->(∀i,F i w)->Q a w
 | (i,o) :: rest,a,F=>
  if Region.wanted o (yielded ops a.tmps) then
   match S i with
   | none=>∃u,(∀w r,Fp ops i r->J r w->Lq P o a u w)/\Ks P ops p J R S Q rest (a.put o.dst u) F
   | some s=>(∀w r,Fp ops i r->J r w->(∀e∈o.after,Region.binds .any e=true->F e.on w)->Je P o a (fun w'=>J (off r i) w'/\R i w w') (fun v w'=>∃x,v=s.f x/\s.V x w') w)/\
     ∀x:s.α,Ks P ops p J R S Q rest (a.put o.dst (s.f x)) (upd F i (s.V x))
  else Ks P ops p J R S Q rest (a.put o.dst undef) F
def Ls (P:Program)(ops:Array Oper)(J:(Nat->Bool)->World->Prop)(R:Nat->World->World->Prop)(S:Nat->Option Ba)(i:Nat)(o:Oper)(a:Act)(F:Nat->World->Prop)(K:Act->(Nat->World->Prop)->Prop):Prop:=
 if Region.wanted o (yielded ops a.tmps) then
  match S i with
  | none=>∃u,(∀w r,Fp ops i r->J r w->Lq P o a u w)/\K (a.put o.dst u) F
  | some s=>(∀w r,Fp ops i r->J r w->(∀e∈o.after,Region.binds .any e=true->F e.on w)->Je P o a (fun w'=>J (off r i) w'/\R i w w') (fun v w'=>∃x,v=s.f x/\s.V x w') w)/\
    ∀x:s.α,K (a.put o.dst (s.f x)) (upd F i (s.V x))
 else K (a.put o.dst undef) F
theorem Ps {Q:Act->World->Prop}{i:Nat}{o:Oper}{rest:List (Nat×Oper)}{a:Act}{F:Nat->World->Prop} :
  Ks P ops p J R S Q ((i,o) :: rest) a F=Ls P ops J R S i o a F (Ks P ops p J R S Q rest):=rfl
theorem Adm {i j:Nat}{oi oj:Oper}{a:Act}{F:Nat->World->Prop}{K:Act->(Nat->World->Prop)->Prop}(hij:i≠j)(hsi:∀cs b,oi.op≠.select cs b)(hsj:∀cs b,oj.op≠.select cs b)
  (hap:oj.apart ops oi=true) (hi:∀e∈oi.after,Region.binds .any e=true->e.on≠j) (hj:∀e∈oj.after,Region.binds .any e=true->e.on≠i)
  (hw:∃w r,Fp ops i r/\J r w)
  (h:Ls P ops J R S j oj a F fun a' F'=>Ls P ops J R S i oi a' F' K):Ls P ops J R S i oi a F fun a' F'=>Ls P ops J R S j oj a' F' K:=by
 obtain⟨h1,h2,h3⟩:=Oper.apart_spec hap;have h2':∀d,oi.dst=some d->oj.dst≠some d:=fun d hd he=>h2 d he hd
 obtain⟨w0,k0,a1,a2⟩:=hw;have wi:∀v,Region.wanted oi (yielded ops (a.put oj.dst v).tmps)=Region.wanted oi (yielded ops a.tmps):=fun v=>wanted_put oi a oj.dst v h1
 have wj:∀v,Region.wanted oj (yielded ops (a.put oi.dst v).tmps)=Region.wanted oj (yielded ops a.tmps):=fun v=>wanted_put oj a oi.dst v h3
 unfold Ls at h⊢;simp only[wi,wj] at h⊢;by_cases cj:Region.wanted oj (yielded ops a.tmps)=true
 ·simp only[cj,if_true] at h⊢;by_cases ci:Region.wanted oi (yielded ops a.tmps)=true
  ·simp only[ci,if_true] at h⊢;cases hSi:S i with
   | none=>
    cases hSj:S j with
    | none=>
     simp only[hSi,hSj] at h⊢;obtain⟨u,hu,v,hv,hK⟩:=h;refine⟨v,fun w k hg hJ=>(Fv (ops:=ops) hsi h1).1 (hv w k hg hJ),u,fun w k hg hJ=>(Fv (ops:=ops) hsj h3).2 (hu w k hg hJ),?_⟩
     rw[Act.put_comm a v u h2'];exact hK
    | some s=>
     simp only[hSi,hSj] at h⊢;obtain⟨hu,hx⟩:=h;obtain⟨v,hv,_⟩:=hx s.d;refine⟨v,fun w k hg hJ=>(Fv (ops:=ops) hsi h1).1 (hv w k hg hJ),fun w k hg hJ hF=>(Gy (ops:=ops) hsj h3).2 (hu w k hg hJ hF),fun x=>?_⟩
     obtain⟨v',a6,hK⟩:=hx x;have:v'=v:=Wg ((Fv (ops:=ops) hsi h1).1 (a6 w0 k0 a1 a2)) ((Fv (ops:=ops) hsi h1).1 (hv w0 k0 a1 a2));subst this;rw[Act.put_comm a _ _ h2'];exact hK
   | some t=>
    cases hSj:S j with
    | none=>
     simp only[hSi,hSj] at h⊢;obtain⟨u,hu,hv,hK⟩:=h;refine⟨fun w k hg hJ hF=>(Gy (ops:=ops) hsi h1).1 (hv w k hg hJ hF),fun y=>⟨u,fun w k hg hJ=>(Fv (ops:=ops) hsj h3).2 (hu w k hg hJ),?_⟩⟩
     rw[Act.put_comm a _ _ h2'];exact hK y
    | some s=>
     simp only[hSi,hSj] at h⊢;obtain⟨hu,hx⟩:=h;refine⟨fun w k hg hJ hF=>(Gy (ops:=ops) hsi h1).1 ((hx s.d).1 w k hg hJ (fun e he hb=>by have:=hi e he hb;simp only[upd,if_neg this];exact hF e he hb)),fun y=>⟨fun w k hg hJ hF=>(Gy (ops:=ops) hsj h3).2 (hu w k hg hJ (fun e he hb=>by have h0:=hF e he hb;simp only[upd,if_neg (hj e he hb)] at h0;exact h0)),fun x=>?_⟩⟩
     rw[Act.put_comm a _ _ h2',Afp hij];exact(hx x).2 y
  ·have ci':Region.wanted oi (yielded ops a.tmps)=false:=by simpa using ci
   simp only[ci',Bool.false_eq_true,if_false] at h⊢;cases hSj:S j with
   | none=>
    simp only[hSj] at h⊢;obtain⟨u,hu,hK⟩:=h;refine⟨u,fun w k hg hJ=>(Fv (ops:=ops) hsj h3).2 (hu w k hg hJ),?_⟩
    rw[Act.put_comm a _ _ h2'];exact hK
   | some s=>
    simp only[hSj] at h⊢;obtain⟨hu,hx⟩:=h;refine⟨fun w k hg hJ hF=>(Gy (ops:=ops) hsj h3).2 (hu w k hg hJ hF),fun x=>?_⟩
    rw[Act.put_comm a _ _ h2'];exact hx x
 ·have cj':Region.wanted oj (yielded ops a.tmps)=false:=by simpa using cj
  simp only[cj',Bool.false_eq_true,if_false] at h⊢;by_cases ci:Region.wanted oi (yielded ops a.tmps)=true
  ·simp only[ci,if_true] at h⊢;cases hSi:S i with
   | none=>
    simp only[hSi] at h⊢;obtain⟨v,hv,hK⟩:=h;refine⟨v,fun w k hg hJ=>(Fv (ops:=ops) hsi h1).1 (hv w k hg hJ),?_⟩
    rw[Act.put_comm a _ _ h2'];exact hK
   | some t=>
    simp only[hSi] at h⊢;obtain⟨hv,hK⟩:=h;refine⟨fun w k hg hJ hF=>(Gy (ops:=ops) hsi h1).1 (hv w k hg hJ hF),fun y=>?_⟩
    rw[Act.put_comm a _ _ h2'];exact hK y
  ·have ci':Region.wanted oi (yielded ops a.tmps)=false:=by simpa using ci
   simp only[ci',Bool.false_eq_true,if_false] at h⊢;rw[Act.put_comm a _ _ h2'];exact h
theorem Uo {i:Nat}{o:Oper}{a:Act}{F:Nat->World->Prop}{K K':Act->(Nat->World->Prop)->Prop}(hK:∀a F,K a F->K' a F)(h:Ls P ops J R S i o a F K):Ls P ops J R S i o a F K':=by
 unfold Ls at *;split
 ·rename_i c
  simp only[c,if_true] at h;cases hS:S i with
  | none=>simp only[hS] at h⊢;exact⟨h.choose,h.choose_spec.1,hK _ _ h.choose_spec.2⟩
  | some s=>simp only[hS] at h⊢;exact⟨h.1,fun x=>hK _ _ (h.2 x)⟩
 ·rename_i c
  simp only[c] at h;exact hK _ _ h
theorem Pt {Q:Act->World->Prop}{i:Nat}{oi:Oper}(hw:∃w r,Fp ops i r/\J r w){l2:List (Nat×Oper)}(hsi:∀cs b,oi.op≠.select cs b) :
  ∀(l1:List (Nat×Oper)) (a:Act) (F:Nat->World->Prop),
   (∀j oj,(j,oj)∈l1->i≠j/\(∀cs b,oj.op≠.select cs b)/\oj.apart ops oi=true/\(∀e∈oi.after,Region.binds .any e=true->e.on≠j)/\(∀e∈oj.after,Region.binds .any e=true->e.on≠i))->
   Ks P ops p J R S Q (l1 ++ (i,oi) :: l2) a F->Ls P ops J R S i oi a F (Ks P ops p J R S Q (l1 ++ l2))
 | [],_,_,_,h=>h
 | (j,oj) :: l1,a,F,hl,h=>by
  obtain⟨h1,h2,h3,h4,h5⟩:=hl j oj (by simp);rw[List.cons_append,Ps] at h;have h':=Uo (fun a' F' hh=>Pt hw hsi l1 a' F' (fun k ok hk=>hl k ok (by simp[hk])) hh) h;exact Adm h1 hsi h2 h3 h4 h5 hw h'
theorem Tu {p m:Nat}{Q:Act->World->Prop}{Q':Exit->Act->World->Prop}(hB:Ir ops p=true)
  (hQ:∀listed a w,listed.size=ops.size->(∀j,j<ops.size->(listed.getD j true=false ↔ p<=j))->Aai ops listed->Q a w->wpAny P .any ops Q' m listed a w)
  (hJ:∀i r w,(S i=none\/∃oi,ops[i]? = some oi/\oi.guard≠none)->Fp ops i r->J r w->J (off r i) w) (hS:∀i s j,S i=some s->j≠i->∀x w w',R j w w'->s.V x w->s.V x w') :
  ∀(n:Nat) (l:List (Nat×Oper)) (listed:Array Bool) (a:Act) (w:World) (F:Nat->World->Prop),l.length=n->listed.size=ops.size->
   (∀j oj,(j,oj)∈l ↔ ops[j]? = some oj/\j<p/\listed.getD j true=false)->(∀j,j<ops.size->p<=j->listed.getD j true=false)->(l.map (·.1)).Pairwise (· < ·)->
   (∀i j w w',i≠j->R i w w'->F j w->F j w')->(∀j,F j w)->J (rem listed) w->Aai ops listed->Ks P ops p J R S Q l a F->wpAny P .any ops Q' (n+m) listed a w:=by
 have am:=fun j o cs b=>Afq (ops:=ops) hB j o cs b
 have ay:=Wi hB;intro n
 induction n with
 | zero=>
  intro l listed a w F hl hsz hmem htl hsort hst hF hj hsh h;have ap:l=[]:=List.eq_nil_of_length_eq_zero hl;subst ap;rw[Nat.zero_add]
  have ac:∀j,j<ops.size->(listed.getD j true=false ↔ p<=j):=fun j hj'=>⟨fun h0=>by
   rcases Nat.lt_or_ge j p with aa|al
   ·have:=(hmem j _).2 ⟨Array.getElem?_eq_getElem hj',aa,h0⟩;simp at this
   ·exact al,htl j hj'⟩
  refine hQ _ _ _ hsz ac hsh (h w (rem listed) (fun j hj'=>?_) hj hF)
  unfold rem;cases hc:listed.getD j true
  ·simp[(ac j hj').1 hc]
  ·have:¬p<=j:=fun hp=>by rw[(ac j hj').2 hp] at hc;cases hc
   simp[this]
 | succ n ih=>
  intro l listed a w F hl hsz hmem htl hsort hst hF hj hsh h
  have a8:∃i oi l',l=(i,oi) :: l':=by
   match l,hl with
   | (i,oi) :: l',_=>exact⟨i,oi,l',rfl⟩
  rw[show n+1+m=(n+m)+1 by omega];refine⟨fun hr=>?_,fun i hi=>?_⟩
  ·
   exfalso
   obtain⟨i,oi,l',rfl⟩:=a8;obtain⟨a6,aj,ai⟩:=(hmem i oi).1 (by simp)
   have:i∈Region.ready .any ops listed:=by
    refine mem_ready.2 ⟨ai,oi,a6,fun e he hb=>?_⟩
    have aa:=(Gz hB a6).1 e he hb;have aq:i<ops.size:=(Array.getElem?_eq_some_iff.1 a6).1;have au:ops[e.on]? = some (ops[e.on]'(by omega)):=Array.getElem?_eq_getElem (by omega);refine Og (by omega) fun hg=>?_
    have hm:=(hmem e.on _).2 ⟨au,by omega,hg⟩;rcases jE.1 hm with h1|h1
    ·have:=congrArg Prod.fst h1;simp at this;omega
    ·simp only[List.map_cons,List.pairwise_cons] at hsort;have:=hsort.1 e.on (List.mem_map.2 ⟨_,h1,rfl⟩);omega
   rw[hr] at this;cases this
  ·obtain⟨ai,oi,a6,a7⟩:=mem_ready.1 hi;have aq:i<ops.size:=(Array.getElem?_eq_some_iff.1 a6).1
   have ab:∀j,j<ops.size->listed.getD j true=false->∀e∈oi.after,Region.binds .any e=true->e.on≠j:=fun j hj' ak e he hb heq=>by
    have h1:=a7 e he hb;rw[heq] at h1;exact Jf (by omega) h1 ak
   have aj:i<p:=by
    rcases Nat.lt_or_ge i p with aa|al
    ·exact aa
    ·exfalso
     obtain⟨j,oj,l',rfl⟩:=a8;obtain⟨az,aA,ak⟩:=(hmem j oj).1 (by simp);exact Jf (by omega) (Rn hB hsh a6 al a7 _ j (jD _) (by omega)) ak
   have aw:=(hmem i oi).2 ⟨a6,aj,ai⟩;obtain⟨l1,l2,rfl⟩:=List.append_of_mem aw
   have ax:∀j oj,(j,oj)∈l1 ++ l2->j≠i:=by
    intro j oj hj' he;subst he;rw[List.map_append,List.map_cons,List.pairwise_append] at hsort;obtain⟨_,s2,s3⟩:=hsort;rcases jN.1 hj' with h1|h1
    ·have:=s3 j (List.mem_map.2 ⟨_,h1,rfl⟩) j (by simp);omega
    ·have:=(List.pairwise_cons.1 s2).1 j (List.mem_map.2 ⟨_,h1,rfl⟩);omega
   have hmem':∀j oj,(j,oj)∈l1 ++ l2 ↔ ops[j]? = some oj/\j<p/\(listed.setIfInBounds i true).getD j true=false:=by
    intro j oj;by_cases af:j=i
    ·subst af;refine⟨fun h'=>absurd rfl (ax _ _ h'),fun h'=>?_⟩
     have aa:j<listed.size:=by omega
     simp[aa] at h'
    ·rw[getD_set_ne true (Ne.symm af),<-hmem j oj];simp[af]
   have htl':∀j,j<ops.size->p<=j->(listed.setIfInBounds i true).getD j true=false:=fun j hj' hpj=>by
    rw[getD_set_ne true (by omega)];exact htl j hj' hpj
   have hsort':((l1 ++ l2).map (·.1)).Pairwise (· < ·):=by
    refine List.Pairwise.sublist ?_ hsort
    exact List.Sublist.map _ (List.Sublist.append (List.Sublist.refl l1) (List.sublist_cons_self _ _))
   have a2:Fp ops i (rem listed):=by
    refine⟨by simp[rem,ai],fun o ho e he hb=>?_,fun j oj ho hr e he hb=>?_⟩
    ·rw[a6] at ho;cases ho;have aa:=(Gz hB a6).1 e he hb;have:=Lr (i:=e.on) (by omega) (a7 e he hb);simp[rem,this]
    ·have aa:=(Gz hB ho).1 e he hb;have an:j<ops.size:=(Array.getElem?_eq_some_iff.1 ho).1
     have ah:listed.getD j false=true:=by
      have h1:listed.getD j true=true:=by simpa[rem] using hr
      exact Rp (by omega) h1
     have:=Lr (i:=e.on) (by omega) (hsh j oj ho ah e he hb);simp[rem,this]
   have ad:rem (listed.setIfInBounds i true)=off (rem listed) i:=by
    funext j
    by_cases af:j=i
    ·subst af;have:j<listed.size:=by omega
     simp[rem,off,this]
    ·simp[rem,off,getD_set_ne true (Ne.symm af),af]
   have a1:=Pt (P:=P) (ops:=ops) (p:=p) (J:=J) (R:=R) (S:=S) ⟨w,_,a2,hj⟩ (fun cs b=>am i oi cs b a6) l1 a F (fun j oj ah=>by
    have ag:=(hmem j oj).1 (List.mem_append_left _ ah);have an:j<ops.size:=(Array.getElem?_eq_some_iff.1 ag.1).1
    have aa:j<i:=by
     rw[List.map_append,List.map_cons,List.pairwise_append] at hsort;exact hsort.2.2 j (List.mem_map.2 ⟨_,ah,rfl⟩) i (by simp)
    have ao:=ab j an ag.2.2;exact⟨by omega,fun cs b=>am j oj cs b ag.1,(Gz hB a6).2.1 aj j oj aa ag.1 ao,ao,fun e he hb=>by have:=(Gz hB ag.1).1 e he hb;omega⟩) h
   have ae:(l1 ++ l2).length=n:=by simp at hl⊢;omega
   unfold wpOp;rw[a6];show if Region.wanted oi (yielded ops a.tmps)=true then _ else _
   unfold Ls at a1;split
   ·rename_i hwd
    left
    simp only[hwd,if_true] at a1;cases hSi:S i with
    | none=>
     simp only[hSi] at a1;obtain⟨u,hu,hK⟩:=a1;exact Xu (hu w _ a2 hj) (ih (l1 ++ l2) _ _ w F ae (by simpa using hsz) hmem' htl' hsort' hst hF (ad ▸ hJ i _ w (.inl hSi) a2 hj) (hsh.set a6 a7) hK)
    | some s=>
     simp only[hSi] at a1;refine Wh (a1.1 w _ a2 hj (fun e he hb=>hF _)) fun v w' hv hj'=>?_
     obtain⟨x,rfl,hx⟩:=hv;refine ih (l1 ++ l2) _ _ w' (upd F i (s.V x)) ae (by simpa using hsz) hmem' htl' hsort' ?_ ?_ (ad ▸ hj'.1) (hsh.set a6 a7) (a1.2 x)
     ·intro i' j w1 w2 hne hr hf;unfold upd at hf⊢;split
      ·rename_i hh;simp only[hh,if_true] at hf;exact hS i s i' hSi (by rw[<-hh];exact hne) x _ _ hr hf
      ·rename_i hh;simp only[hh,if_false] at hf;exact hst _ _ _ _ hne hr hf
     ·intro j;unfold upd;split
      ·exact hx
      ·rename_i hh;exact hst i j _ _ (fun e=>hh e.symm) hj'.2 (hF j)
   ·rename_i hwd
    simp only[hwd] at a1;exact ih (l1 ++ l2) _ _ w F ae (by simpa using hsz) hmem' htl' hsort' hst hF (ad ▸ hJ i _ w (.inr ⟨oi,a6,fun hg=>hwd (by simp[Region.wanted,hg])⟩) a2 hj) (hsh.set a6 a7) a1
def Bb (P:Program)(ops:Array Oper)(p:Nat)(J:(Nat->Bool)->World->Prop)(R:Nat->World->World->Prop)(S:Nat->Option Ba)(Q:Act->World->Prop):Nat->List Oper->Act->(Nat->World->Prop)->Prop
 | _,[],a,F=>∀w r,(∀j,j<ops.size->r j=decide (p<=j))->J r w->(∀i,F i w)->Q a w
 | k,o :: rest,a,F=>Ls P ops J R S k o a F (Bb P ops p J R S Q (k+1) rest)
theorem Up {Q:Act->World->Prop}:∀(l:List Oper) (k:Nat) (a:Act) (F:Nat->World->Prop),Bb P ops p J R S Q k l a F->Ks P ops p J R S Q (Hn k l) a F
 | [],_,_,_,h=>h
 | _ :: l,k,a,F,h=>by
  unfold Hn;rw[Ps];exact Uo (fun a' F' hh=>Up l (k+1) a' F' hh) h
theorem De {id:Nat}{Q:Exit->Act->World->Prop}{a:Act}{w:World}{l:List Oper}(p:Nat)(J:(Nat->Bool)->World->Prop)(R:Nat->World->World->Prop)(S:Nat->Option Ba)(hm:P.follows .mixedOrders=true)(hB:Ir l.toArray p=true)
  (hJ:∀i r w,(S i=none\/∃oi,l.toArray[i]? = some oi/\oi.guard≠none)->Fp l.toArray i r->J r w->J (off r i) w) (hS:∀i s j,S i=some s->j≠i->∀x w w',R j w w'->s.V x w->s.V x w') (h0:J (fun j=>decide (j<l.length)) w.drew)
  (h:Bb P l.toArray p J R S (fun a w=>wpList P l.toArray Q (l.drop p) a w) 0 (l.take p) a (fun _ _=>True)):(Code.region id l.toArray true).wp P Q a w:=by
 have a7:p<=l.length:=by simpa using Wi hB
 have a1:(l.take p).length=p:=by simp;omega
 have a2:l.toArray.size=p+(l.drop p).length:=by simp;omega
 refine wp_region_any hm ?_
 rw[a2];refine Tu (m:=(l.drop p).length) (Q:=fun a w=>wpList P l.toArray Q (l.drop p) a w) hB ?_ hJ hS p (Hn 0 (l.take p)) _ a _ (fun _ _=>True) (by rw[Nd,a1]) (by simp;omega) ?_ ?_ (Nf _ _) (by simp) (by simp) ?_ ?_ (Up _ _ _ _ h)
 ·intro listed a' w' hs hun hsh h';exact Ro hB (l.drop p) p listed a' w' (jD _) hs a2.symm (fun j=>by simp) hun hsh h'
 ·intro j oj;rw[Np];have hd:p+(l.drop p).length=l.length:=by simp;omega
  have hr:∀j,(Array.replicate (p+(l.drop p).length) false).getD j true=false ↔ j<l.length:=fun j=>by
   rw[hd];by_cases hj:j<l.length<;>simp[hj]
  rw[hr];simp only[jQ,true_and,Nat.sub_zero,List.getElem?_toArray];constructor
  ·intro h1;rw[List.getElem?_take] at h1;split at h1
   ·rename_i hjp
    exact⟨h1,hjp,by have:=(List.getElem?_eq_some_iff.1 h1).1;omega⟩
   ·cases h1
  ·rintro⟨h1,h2,_⟩;rw[List.getElem?_take,if_pos h2];exact h1
 ·intro j hj _;have hd:p+(l.drop p).length=l.length:=by simp;omega
  have hj':j<l.length:=by simpa using hj
  rw[hd];simp[hj']
 ·have a6:rem (Array.replicate (p+(l.drop p).length) false)=fun j=>decide (j<l.length):=by
   have hd:p+(l.drop p).length=l.length:=by simp;omega
   rw[hd];funext j
   by_cases hj:j<l.length<;>simp[rem,hj]
  rw[a6];exact h0
 ·intro k ok _ hk;simp[Array.getD_eq_getD_getElem?,Array.getElem?_replicate] at hk;split at hk<;>simp at hk
section
variable {Q:Act->World->Prop} {k:Nat} {o:Oper} {rest:List Oper} {a:Act} {F:Nat->World->Prop}
theorem Ci (h:∀w r,(∀j,j<ops.size->r j=decide (p<=j))->J r w->(∀i,F i w)->Q a w):Bb P ops p J R S Q k [] a F:=h
theorem Il (hS:S k=none)(hw:Region.wanted o (yielded ops a.tmps)=true)(h:∃u,(∀w n,Fp ops k n->J n w->(execOp a.eval o).run P w=.ok (.value u) w)/\Bb P ops p J R S Q (k+1) rest (a.put o.dst u) F) :
  Bb P ops p J R S Q k (o :: rest) a F:=by
 obtain⟨u,hu,h⟩:=h;unfold Bb Ls;rw[if_pos hw,hS];exact⟨u,fun w n hg hJ=>by unfold Lq;rw[hu w n hg hJ];exact⟨rfl,rfl⟩,h⟩
theorem dEU {u:Value}(h2:∀w n,Fp ops k n->J n w->(execOp a.eval o).run P w=.ok (.value u) w)(h3:Bb P ops p J R S Q (k+1) rest (a.put o.dst u) F)(hS:S k=none:=by exact rfl)(hw:Region.wanted o (yielded ops a.tmps)=true:=by exact rfl) :
  Bb P ops p J R S Q k (o :: rest) a F:=Il hS hw ⟨u,h2,h3⟩
theorem Xv (hw:Region.wanted o (yielded ops a.tmps)=false)(h:Bb P ops p J R S Q (k+1) rest (a.put o.dst undef) F):Bb P ops p J R S Q k (o :: rest) a F:=by
 unfold Bb Ls;rw[if_neg (by simp[hw])];exact h
theorem Bv (s:Ba)(hS:S k=some s)(hw:Region.wanted o (yielded ops a.tmps)=true)
  (hu:∀w n,Fp ops k n->J n w->(∀e∈o.after,Region.binds .any e=true->F e.on w)->∃x w',(execOp a.eval o).run P w=.ok (.value (s.f x)) w'/\s.V x w'/\J (off n k) w'/\R k w w')
  (h:∀x:s.α,Bb P ops p J R S Q (k+1) rest (a.put o.dst (s.f x)) (upd F k (s.V x))):Bb P ops p J R S Q k (o :: rest) a F:=by
 unfold Bb Ls;rw[if_pos hw,hS];refine⟨fun w n hg hJ hF=>?_,h⟩
 obtain⟨x,w',hr,hV,a1,hR⟩:=hu w n hg hJ hF;unfold Je;rw[hr];exact⟨⟨x,rfl,hV⟩,a1,hR⟩
theorem Fw (s:Ba)(hS:S k=some s)(hw:Region.wanted o (yielded ops a.tmps)=true)
  (hh:∃(f:FuncId) (a1:Array Value),(∀w,(execOp a.eval o).run P w=.ok (.enter f a1) w)/\
   (∀w n,Fp ops k n->J n w->(∀e∈o.after,Region.binds .any e=true->F e.on w)->Calls P f a1 w fun e w'=>∃x,e=.returned (s.f x)/\s.V x w'/\J (off n k) w'/\R k w w'))
  (h:∀x:s.α,Bb P ops p J R S Q (k+1) rest (a.put o.dst (s.f x)) (upd F k (s.V x))):Bb P ops p J R S Q k (o :: rest) a F:=by
 obtain⟨f,a1,hr,hu⟩:=hh;unfold Bb Ls;rw[if_pos hw,hS];refine⟨fun w n hg hJ hF=>?_,h⟩
 unfold Je;rw[hr w];exact(hu w n hg hJ hF).mono fun e w' ⟨x,he,hV,hJ',hR⟩=>⟨s.f x,he,⟨x,rfl,hV⟩,hJ',hR⟩
theorem Dq (s:Ba)(hS:S k=some s)(hw:Region.wanted o (yielded ops a.tmps)=true)(hf:∀x,s.f x=undef)
  (hu:∀w n,Fp ops k n->J n w->(∀e∈o.after,Region.binds .any e=true->F e.on w)->∃x w',(execOp a.eval o).run P w=.ok .skip w'/\s.V x w'/\J (off n k) w'/\R k w w')
  (h:∀x:s.α,Bb P ops p J R S Q (k+1) rest (a.put o.dst undef) (upd F k (s.V x))):Bb P ops p J R S Q k (o :: rest) a F:=by
 unfold Bb Ls;rw[if_pos hw,hS];refine⟨fun w n hg hJ hF=>?_,fun x=>by rw[hf];exact h x⟩
 obtain⟨x,w',hr,hV,a1,hR⟩:=hu w n hg hJ hF;unfold Je;rw[hr];exact⟨⟨x,(hf x).symm,hV⟩,a1,hR⟩
end
end
end
section
def Li (W:Nat->Nat)(r:Nat->Bool):Nat->Nat
 | 0=>0
 | p+1=>Li W r p+(if r p then W p else 0)
theorem Mq {W:Nat->Nat}{r r':Nat->Bool}:∀p,(∀j,j<p->r j=r' j)->Li W r p=Li W r' p
 | 0,_=>rfl
 | p+1,h=>by unfold Li;rw[Mq p (fun j hj=>h j (by omega)),h p (by omega)]
theorem Uq {W:Nat->Nat}{r:Nat->Bool}:∀p,(∀j,j<p->r j=false)->Li W r p=0
 | 0,_=>rfl
 | p+1,h=>by unfold Li;rw[Uq p (fun j hj=>h j (by omega)),h p (by omega)];rfl
theorem Rq {W:Nat->Nat}{r:Nat->Bool}{k:Nat}(hr:r k=true):∀p,k<p->Li W r p=Li W (off r k) p+W k
 | p+1,h=>by
  unfold Li;by_cases hp:p=k
  ·subst hp;rw[hr,Mq (r':=off r p) p (fun j hj=>by simp[off];intro h1 h2;omega)];simp[off]
  ·rw[Rq hr p (by omega),show off r k p=r p by simp[off,hp]];omega
section
variable {P:Program} {ops:Array Oper} {W:Nat->Nat} {J:Nat->World->Prop} {R:World->World->Prop} {S:Nat->Option Ba}
def Gg (P:Program)(ops:Array Oper)(W:Nat->Nat)(J:Nat->World->Prop)(R:World->World->Prop)(S:Nat->Option Ba)(Q:Act->World->Prop)(k:Nat)(l:List Oper)(a:Act)(F:Nat->World->Prop):Prop:=
 k+l.length<=ops.size->Bb P ops (k+l.length) (fun r w=>J (Li W r (k+l.length)) w) (fun _=>R) S Q k l a F
theorem Rr {id:Nat}{Q:Exit->Act->World->Prop}{a:Act}{w:World}{l:List Oper}(p:Nat)(W:Nat->Nat)(J:Nat->World->Prop)(R:World->World->Prop)(S:Nat->Option Ba)(hm:P.follows .mixedOrders=true)(hB:Ir l.toArray p=true)
  (hJ:∀i k w,J (k+W i) w->J k w) (hS:∀i s,S i=some s->∀x w w',R w w'->s.V x w->s.V x w') (N:Nat) (hN:Li W (fun _=>true) p=N) (h0:J N w.drew)
  (h:Gg P l.toArray W J R S (fun a w=>wpList P l.toArray Q (l.drop p) a w) 0 (l.take p) a (fun _ _=>True)):(Code.region id l.toArray true).wp P Q a w:=by
 have a2:p<=l.length:=by simpa using Wi hB
 have a1:0+(l.take p).length=p:=by simp;omega
 have h1:=h (by rw[a1];simpa using a2);rw[a1] at h1;refine De p (fun r w=>J (Li W r p) w) (fun _=>R) S hm hB (fun i r w _ hg hw=>?_) (fun i s _ hs _=>hS i s hs) ?_ h1
 ·by_cases hi:i<p
  ·refine hJ i _ w ?_
   rw[<-Rq hg.mine p hi];exact hw
  ·rw[Mq (r':=r) p (fun j hj=>by simp[off];intro _;omega)];exact hw
 ·rw[Mq (r':=fun _=>true) p (fun j hj=>by simp;omega),hN];exact h0
section
variable {Q:Act->World->Prop} {k:Nat} {o:Oper} {rest:List Oper} {a:Act} {F:Nat->World->Prop}
theorem Wj {n:Nat->Bool}(hg:Fp ops k n)(p:Nat)(hp:k<p){w:World}(h:J (Li W n p) w):J (Li W (off n k) p+W k) w:=by rw[<-Rq hg.mine p hp];exact h
theorem Iw (h:Gg P ops W J R S Q (k+1) rest a F)(hle:k+(o :: rest).length<=ops.size):Bb P ops (k+(o :: rest).length) (fun r w=>J (Li W r (k+(o :: rest).length)) w) (fun _=>R) S Q (k+1) rest a F:=by
 have e:k+(o :: rest).length=k+1+rest.length:=by simp;omega
 rw[e] at hle⊢;exact h hle
theorem Aaj (h:∀w,J 0 w->(∀i,F i w)->Q a w):Gg P ops W J R S Q k [] a F:=fun _ w r hr hJ hF=>h w (by
 have:Li W r (k+0)=0:=Uq _ (fun j hj=>by rw[hr j (by simp at *;omega)];simp;omega);rw[<-this];exact hJ) hF
theorem Rs (hS:S k=none)(hw:Region.wanted o (yielded ops a.tmps)=true)(h:∃u,(∀w n,J (n+W k) w->(execOp a.eval o).run P w=.ok (.value u) w)/\Gg P ops W J R S Q (k+1) rest (a.put o.dst u) F) :
  Gg P ops W J R S Q k (o :: rest) a F:=fun hle=>by
 obtain⟨u,hu,h⟩:=h;exact Il hS hw ⟨u,fun w n hg hJ=>hu w _ (Wj hg _ (by simp) hJ),Iw h hle⟩
theorem dEW {u:Value}(h2:∀w n,J (n+W k) w->(execOp a.eval o).run P w=.ok (.value u) w)(h3:Gg P ops W J R S Q (k+1) rest (a.put o.dst u) F)(hS:S k=none:=by exact rfl)(hw:Region.wanted o (yielded ops a.tmps)=true:=by exact rfl) :
  Gg P ops W J R S Q k (o :: rest) a F:=Rs hS hw ⟨u,h2,h3⟩
theorem Xw (hw:Region.wanted o (yielded ops a.tmps)=false)(h:Gg P ops W J R S Q (k+1) rest (a.put o.dst undef) F):Gg P ops W J R S Q k (o :: rest) a F:=fun hle=>Xv hw (Iw h hle)
theorem Wk (s:Ba)(hS:S k=some s)(hw:Region.wanted o (yielded ops a.tmps)=true)
  (hu:∀w n,J (n+W k) w->(∀e∈o.after,Region.binds .any e=true->F e.on w)->∃x w',(execOp a.eval o).run P w=.ok (.value (s.f x)) w'/\s.V x w'/\J n w'/\R w w')
  (h:∀x:s.α,Gg P ops W J R S Q (k+1) rest (a.put o.dst (s.f x)) (upd F k (s.V x))):Gg P ops W J R S Q k (o :: rest) a F:=fun hle=>Bv s hS hw (fun w n hg hJ hF=>hu w _ (Wj hg _ (by simp) hJ) hF) (fun x=>Iw (h x) hle)
theorem Xx (s:Ba)(hS:S k=some s)(hw:Region.wanted o (yielded ops a.tmps)=true)
  (hh:∃(f:FuncId) (a1:Array Value),(∀w,(execOp a.eval o).run P w=.ok (.enter f a1) w)/\
   (∀w n,J (n+W k) w->(∀e∈o.after,Region.binds .any e=true->F e.on w)->Calls P f a1 w fun e w'=>∃x,e=.returned (s.f x)/\s.V x w'/\J n w'/\R w w'))
  (h:∀x:s.α,Gg P ops W J R S Q (k+1) rest (a.put o.dst (s.f x)) (upd F k (s.V x))):Gg P ops W J R S Q k (o :: rest) a F:=fun hle=>by
 obtain⟨f,a1,hr,hu⟩:=hh;exact Fw s hS hw ⟨f,a1,hr,fun w n hg hJ hF=>hu w _ (Wj hg _ (by simp) hJ) hF⟩ (fun x=>Iw (h x) hle)
end
end
end
section
section
variable {P:Program} {ops:Array Oper} {J:Nat->World->Prop} {R:World->World->Prop} {S:Nat->Option Ba}
def Bj (P:Program)(ops:Array Oper)(J:Nat->World->Prop)(R:World->World->Prop)(S:Nat->Option Ba)(Q:Act->World->Prop)(k:Nat)(l:List Oper)(a:Act)(F:Nat->World->Prop):Prop:=
 Gg P ops (fun _=>1) J R S Q k l a F
theorem Xy:∀p,Li (fun _=>1) (fun _=>true) p=p
 | 0=>rfl
 | p+1=>by unfold Li;rw[Xy p];rfl
theorem Cu {id:Nat}{Q:Exit->Act->World->Prop}{a:Act}{w:World}{l:List Oper}(p:Nat)(J:Nat->World->Prop)(R:World->World->Prop)(S:Nat->Option Ba)(hm:P.follows .mixedOrders=true)(hB:Ir l.toArray p=true)
  (hJ:∀k w,J (k+1) w->J k w) (hS:∀i s,S i=some s->∀x w w',R w w'->s.V x w->s.V x w') (h0:J p w.drew)
  (h:Bj P l.toArray J R S (fun a w=>wpList P l.toArray Q (l.drop p) a w) 0 (l.take p) a (fun _ _=>True)):(Code.region id l.toArray true).wp P Q a w:=
 Rr p (fun _=>1) J R S hm hB (fun _ k w h=>hJ k w h) hS p (Xy p) h0 h
section
variable {Q:Act->World->Prop} {k:Nat} {o:Oper} {rest:List Oper} {a:Act} {F:Nat->World->Prop}
theorem Aj (h:∀w,J 0 w->(∀i,F i w)->Q a w):Bj P ops J R S Q k [] a F:=Aaj h
theorem Ha (hS:S k=none)(hw:Region.wanted o (yielded ops a.tmps)=true)(h:∃u,(∀w n,J (n+1) w->(execOp a.eval o).run P w=.ok (.value u) w)/\Bj P ops J R S Q (k+1) rest (a.put o.dst u) F) :
  Bj P ops J R S Q k (o :: rest) a F:=Rs hS hw h
theorem dE {u:Value}(h2:∀w n,J (n+1) w->(execOp a.eval o).run P w=.ok (.value u) w)(h3:Bj P ops J R S Q (k+1) rest (a.put o.dst u) F)(hS:S k=none:=by exact rfl)(hw:Region.wanted o (yielded ops a.tmps)=true:=by exact rfl) :
  Bj P ops J R S Q k (o :: rest) a F:=Ha hS hw ⟨u,h2,h3⟩
theorem Im (hw:Region.wanted o (yielded ops a.tmps)=false)(h:Bj P ops J R S Q (k+1) rest (a.put o.dst undef) F):Bj P ops J R S Q k (o :: rest) a F:=Xw hw h
theorem Hl (s:Ba)(hS:S k=some s)(hw:Region.wanted o (yielded ops a.tmps)=true)
  (hu:∀w n,J (n+1) w->(∀e∈o.after,Region.binds .any e=true->F e.on w)->∃x w',(execOp a.eval o).run P w=.ok (.value (s.f x)) w'/\s.V x w'/\J n w'/\R w w')
  (h:∀x:s.α,Bj P ops J R S Q (k+1) rest (a.put o.dst (s.f x)) (upd F k (s.V x))):Bj P ops J R S Q k (o :: rest) a F:=Wk s hS hw hu h
theorem Fq (s:Ba)(hS:S k=some s)(hw:Region.wanted o (yielded ops a.tmps)=true)
  (hh:∃(f:FuncId) (args:Array Value),(∀w,(execOp a.eval o).run P w=.ok (.enter f args) w)/\
   (∀w n,J (n+1) w->(∀e∈o.after,Region.binds .any e=true->F e.on w)->Calls P f args w fun e w'=>∃x,e=.returned (s.f x)/\s.V x w'/\J n w'/\R w w'))
  (h:∀x:s.α,Bj P ops J R S Q (k+1) rest (a.put o.dst (s.f x)) (upd F k (s.V x))):Bj P ops J R S Q k (o :: rest) a F:=Xx s hS hw hh h
end
end
end
section
section
variable {P:Program} {ops:Array Oper} {p:Nat} {J:(Nat->Bool)->World->Prop} {R:World->World->Prop} {S:Nat->Option Ba}
def Afr (P:Program)(ops:Array Oper)(p:Nat)(J:(Nat->Bool)->World->Prop)(R:World->World->Prop)(S:Nat->Option Ba)(Q:Act->World->Prop)(k:Nat)(l:List Oper)(a:Act)(F:Nat->World->Prop):Prop:=
 Bb P ops p J (fun _=>R) S Q k l a F
section
variable {Q:Act->World->Prop} {k:Nat} {o:Oper} {rest:List Oper} {a:Act} {F:Nat->World->Prop}
theorem dES {u:Value}(h2:∀w n,Fp ops k n->J n w->(execOp a.eval o).run P w=.ok (.value u) w)(h3:Afr P ops p J R S Q (k+1) rest (a.put o.dst u) F)(hS:S k=none:=by exact rfl)(hw:Region.wanted o (yielded ops a.tmps)=true:=by exact rfl) :
  Afr P ops p J R S Q k (o :: rest) a F:=dEU h2 h3 hS hw
end
end
end
end Go.Proofs.YtfppibmloloakaaGreatDoor
