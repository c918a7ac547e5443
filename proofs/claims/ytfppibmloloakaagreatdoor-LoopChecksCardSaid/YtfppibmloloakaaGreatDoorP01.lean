import Derived.Test.YtfppibmloloakaaGreatDoorRows
import Derived.WalkKit
import Derived.WalkSpells
import Derived.WalkLawsBesides
import Derived.KernelRfl
import Derived.Lib.Hide
import Derived.Deep.Draws
import Derived.Deep.QuietTactic
import Derived.BigQuiet
import Derived.Deep.Quiet
namespace Go.Proofs.YtfppibmloloakaaGreatDoor
open Go.RowKit Go.Proofs.Tryz
set_option linter.all false
section
structure Ext (S:List Nat)(w w':World):Prop where
 os:w'.os=w.os
 tape:w'.tape=w.tape
 output:w'.output=w.output
 size:w.heap.size<=w'.heap.size
 block:∀k,k<w.heap.size->k∉S->w'.heap[k]? = w.heap[k]?
theorem Ext.refl (S:List Nat)(w:World):Ext S w w:=⟨rfl,rfl,rfl,Nat.le_refl _,fun _ _ _=>rfl⟩
theorem Ext.step {S T:List Nat}{a b c:World}(h:Ext S a b)(k:Ext T b c)(hT:∀x,x∈T->x∈S\/a.heap.size<=x):Ext S a c:=
 ⟨k.os.trans h.os,k.tape.trans h.tape,k.output.trans h.output,Nat.le_trans h.size k.size,fun i hi hn=>
  (k.block i (Nat.lt_of_lt_of_le hi h.size) (fun hx=>by rcases hT i hx with h1|h1;exact hn h1;omega)).trans (h.block i hi hn)⟩
theorem Ext.trans {S:List Nat}{a b c:World}(h:Ext S a b)(k:Ext S b c):Ext S a c:=h.step k fun _ hx=>.inl hx
theorem Ext.mono {S T:List Nat}{a b:World}(h:Ext S a b)(hT:∀x,x∈S->x∈T\/a.heap.size<=x):Ext T a b:=(Ext.refl T a).step h hT
theorem Ext.drew {S:List Nat}{a w:World}(h:Ext S a w):Ext S a w.drew:=⟨h.os,h.tape,h.output,h.size,h.block⟩
theorem Ext.drewN {S:List Nat}{a w:World}(h:Ext S a w)(n:Nat):Ext S a (w.drewN n):=⟨h.os,h.tape,h.output,h.size,h.block⟩
theorem Ext.alloc {S:List Nat}{a w:World}(h:Ext S a w)(o:Obj):Ext S a (w.alloc o):=
 ⟨h.os,h.tape,h.output,Nat.le_trans h.size (by simp),fun i hi hn=>(Below.heap_alloc w o i (Nat.lt_of_lt_of_le hi h.size)).trans (h.block i hi hn)⟩
theorem Ext.setCell {S:List Nat}{a w:World}(h:Ext S a w){p:Addr}(hp:p.block∈S\/a.heap.size<=p.block)(u:Value):Ext S a (w.setCell p u):=
 ⟨h.os,h.tape,h.output,by simpa[World.setCell] using h.size,fun i hi hn=>(Below.heap_setCell w p u i (by
  rintro rfl;rcases hp with hp|hp
  ·exact hn hp
  ·omega)).trans (h.block i hi hn)⟩
theorem Ext.setAt {S:List Nat}{a w:World}{b i:Nat}{u:Value}(hb:b∈S\/a.heap.size<=b)(h:Ext S a w):Ext S a (w.setCell ⟨b,i,none⟩ u):=h.setCell hb u
theorem Ext.grown {S:List Nat}{a w w':World}{row:Option Nat}(h:Ext S a w)(hg:w.grownBy w' row)(hr:∀k,row=some k->k∈S\/a.heap.size<=k):Ext S a w':=
 ⟨hg.os.trans h.os,hg.tape.trans h.tape,hg.output.trans h.output,Nat.le_trans h.size hg.size,fun i hi hn=>
  (hg.block i (Nat.lt_of_lt_of_le hi h.size) (fun e=>by rcases hr i e.symm with h1|h1;exact hn h1;omega)).trans (h.block i hi hn)⟩
theorem Ext.cell {S:List Nat}{w w':World}(h:Ext S w w'){p:Addr}(hp:p.block<w.heap.size)(hn:p.block∉S):w'.cell? p=w.cell? p:=
 World.cell?_of_block (w:=w) (h.block p.block hp hn)
theorem Ext.of_below {w w':World}(h:Below w.heap.size w w')(S:List Nat):Ext S w w':=⟨h.os,h.tape,h.output,h.size,fun k hk _=>h.block k hk⟩
theorem Ext.nil {S:List Nat}{w w':World}(h:Ext [] w w'):Ext S w w':=h.mono (by simp)
theorem Ext.held {S:List Nat}{w w':World}(h:Ext S w w'){p:Addr}{v:Value}(hp:w.cell? p=some v)(hn:p.block∉S):w'.cell? p=some v:=
 (h.cell (World.block_lt_of_cell? w p hp) hn).trans hp
def Blk (w:World)(g:Nat)(t:TypeId)(cs:Array Value):Prop:=w.heap[g]? = some (.cells cs t (0,0))
section
variable {w w':World} {g:Nat} {t:TypeId} {cs:Array Value}
theorem Blk.lt (h:Blk w g t cs):g<w.heap.size:=by
 rcases Nat.lt_or_ge g w.heap.size with hlt|hge
 ·exact hlt
 ·unfold Blk at h;rw[Array.getElem?_eq_none hge] at h;cases h
theorem Blk.cell (h:Blk w g t cs)(i:Nat):w.cell? ⟨g,i,none⟩=cs[i]?:=cell_of_row w g i cs t (0,0) h
theorem Blk.frozen (h:Blk w g t cs)(i:Nat):w.frozen? ⟨g,i,none⟩=false:=by
 unfold Blk at h;simp[World.frozen?,h]
theorem Blk.both (h:Blk w g t cs):(∀i,w.cell? ⟨g,i,none⟩=cs[i]?)/\(∀i,w.frozen? ⟨g,i,none⟩=false):=⟨h.cell,h.frozen⟩
theorem Blk.new (w:World)(t:TypeId)(cs:Array Value):Blk (w.alloc (.cells cs t)) w.heap.size t cs:=by
 show(w.heap.push _)[w.heap.size]? = _
 simp
theorem Blk.new' (w:World)(t:TypeId)(cs:Array Value)(n:Nat)(hn:n=w.heap.size):Blk (w.alloc (.cells cs t)) n t cs:=by
 subst hn;exact Blk.new w t cs
theorem Blk.drew (h:Blk w g t cs):Blk w.drew g t cs:=h
theorem Blk.drewN (h:Blk w g t cs)(n:Nat):Blk (w.drewN n) g t cs:=h
theorem Blk.alloc (h:Blk w g t cs)(o:Obj):Blk (w.alloc o) g t cs:=(Below.heap_alloc w o g h.lt).trans h
theorem Blk.set_ (h:Blk w g t cs)(i:Nat)(u:Value):Blk (w.setCell ⟨g,i,none⟩ u) g t (cs.setIfInBounds i u):=by
 unfold Blk at h⊢;simp[World.setCell,Array.getElem?_modify,h]
theorem Blk.set_' (h:Blk w g t cs)(i:Nat)(u:Value)(cs':Array Value)(e:cs.setIfInBounds i u=cs'):Blk (w.setCell ⟨g,i,none⟩ u) g t cs':=e ▸ h.set_ i u
theorem Blk.far (h:Blk w g t cs){p:Addr}(hp:g≠p.block)(u:Value):Blk (w.setCell p u) g t cs:=(Below.heap_setCell w p u g hp).trans h
theorem Blk.ext {S:List Nat}(h:Blk w g t cs)(hb:Ext S w w')(hg:g∉S):Blk w' g t cs:=(hb.block g h.lt hg).trans h
end
def Hd (p:Prop):Prop:=p
theorem hd {p:Prop}(h:p):Hd p:=h
theorem Hd.out {p:Prop}(h:Hd p):p:=h
theorem Hd.o {p:Prop}(h:Hd p):p:=h
theorem hd_eq (p:Prop):Hd p=p:=rfl
attribute [irreducible] Hd
theorem er {S:List Nat}{w:World}:Ext S w w:=Ext.refl S w
theorem ms {α:Type}{a b:α}(h:a∈[b]):a=b:=List.mem_singleton.1 h
theorem nl {a b c:Nat}(h:a<b)(k:b<=c):a<c:=Nat.lt_of_lt_of_le h k
theorem nt {a b c:Nat}(h:a<=b)(k:b<=c):a<=c:=Nat.le_trans h k
theorem ijp {c:Prop}{i:Decidable c}(h:c){α:Type}{t e:α}:ite c t e=t:=if_pos h
theorem ijn {c:Prop}{i:Decidable c}(h:¬c){α:Type}{t e:α}:ite c t e=e:=if_neg h
theorem ils {α:Type}{l:List α}{i:Nat}{a:α}(h:l[i]? = some a):∃h:i<l.length,l[i]=a:=List.getElem?_eq_some_iff.1 h
theorem ilm {α:Type}{l:List α}{i:Nat}{a:α}(h:l[i]? = some a):a∈l:=List.mem_of_getElem? h
theorem Addr.add_mk (b o i:Nat):(⟨b,o,none⟩:Addr).add i=⟨b,o+i,none⟩:=by
 unfold Addr.add;split<;>simp_all
theorem tmod_lo (x n:Int)(hn:1<=n) : -n<x.tmod n:=by
 by_cases h:x<0
 ·have h1:x = -(-x):=by omega
  rw[h1,Int.neg_tmod];have:=Int.tmod_lt_of_pos (-x) (b:=n) (by omega);omega
 ·have:=Int.tmod_nonneg n (Int.not_lt.1 h);omega
theorem tmod_hi (x n:Int)(hn:1<=n):x.tmod n<n:=Int.tmod_lt_of_pos _ (by omega)
theorem ret_int {k:IntKind}{a b:Int}(h:a=b):Ending.returned (.int k a)=.returned (.int k b):=by rw[h]
theorem ret_bool {a b:Bool}(h:a=b):Ending.returned (.bool a)=.returned (.bool b):=by rw[h]
def Nums (xs:List Int):Array Value:=(xs.map (Value.int .i64)).toArray
theorem PT:(∀(a:Act) (d:Tmp) (v:Value),a.put (some d) v={a with tmps:=a.tmps.setIfInBounds d v })/\(∀(a:Act) (v:Value),a.put none v=a)/\(∀(l:List Value) (i:Nat) (x:Value),l.toArray.setIfInBounds i x=(l.set i x).toArray)/\(∀(x y:Value) (l:List Value),(x :: l).set 0 y=y :: l)/\(∀(x y:Value) (l:List Value) (n:Nat),(x :: l).set (n+1) y=x :: l.set n y):=
 ⟨fun _ _ _=>rfl,fun _ _=>rfl,fun _ _ _=>by simp,fun _ _ _=>rfl,fun _ _ _ _=>rfl⟩
theorem TK:(∀(x:Oper) (l:List Oper) (n:Nat),(x :: l).take (n+1)=x :: l.take n)/\(∀l:List Oper,l.take 0=[])/\(∀(x:Oper) (l:List Oper) (n:Nat),(x :: l).drop (n+1)=l.drop n)/\(∀l:List Oper,l.drop 0=l):=
 ⟨fun _ _ _=>rfl,fun _=>rfl,fun _ _ _=>rfl,fun _=>rfl⟩
instance iV:Coe Int Value:=⟨fun x=>.int .i64 x⟩
instance iN:Coe Nat Value:=⟨fun x=>.int .i64 (x:Int)⟩
instance iA:Coe Nat Addr:=⟨fun b=>⟨b,0,none⟩⟩
theorem CL {p:Prop}(h:p:=by((go_simp;try go_bits);first|rfl|exact⟨rfl,rfl⟩)):p:=h
end
structure Af where
 base:Int
 A:Option Addr
 cap:Nat
 ts:List (ByteArray×Int)
structure EH where
 k:Int
 op:Int
 lo:Int
 hi:Int
 n:Int
 m:Int
 buf:Int
 at_:Af
 A:Option Addr
 cap:Nat
inductive Ex where
 | mk (h:EH) (kids:List Ex)
structure SH where
 k:Int
 var:ByteArray
 lo:Int
 hi:Int
 step:Int
 vec:Bool
 cA:Option Addr
 cc:Nat
 conds:List Af
 A:Option Addr
 cap:Nat
 buf:Int
 at_:Af
 val:Ex
inductive St where
 | mk (h:SH) (body:List St)
structure Bf where
 name:ByteArray
 size:Int
 set:Bool
 A:Option Addr
 cap:Nat
 data:List Int
theorem ex_ind {P:Ex->Prop}(h:∀h ks,(∀e∈ks,P e)->P (.mk h ks)):∀e,P e
 | .mk a ks=>h a ks fun e _=>ex_ind h e
theorem st_ind {P:St->Prop}(h:∀h ks,(∀e∈ks,P e)->P (.mk h ks)):∀e,P e
 | .mk a ks=>h a ks fun e _=>st_ind h e
def Ex.h:Ex->EH|.mk h _=>h
def Ex.ks:Ex->List Ex|.mk _ ks=>ks
def St.h:St->SH|.mk h _=>h
def St.body:St->List St|.mk _ b=>b
def btw (x lo hi:Int):Bool:=decide (lo<=x)&&decide (x<=hi)
def isWd (x:Int):Bool:=btw x (-2147483648) 2147483647
def bdd (x:Int):Bool:=btw x (-100000) 100000
theorem btw_iff {x lo hi:Int}:btw x lo hi=true ↔ lo<=x/\x<=hi:=by simp[btw]
def ltS (a b:ByteArray):Bool:=Op.bytesLess a.toList b.toList
def eqS (a b:ByteArray):Bool:=a.toList==b.toList
def small1 (b:UInt8):Bool:=decide (97<=b.toNat)&&decide (b.toNat<=122)
def digit1 (b:UInt8):Bool:=decide (48<=b.toNat)&&decide (b.toNat<=57)
def nameB (s:ByteArray):Bool:=match s.data.toList with
 | []=>false
 | b :: r=>decide (r.length<=7)&&small1 b&&r.all fun c=>small1 c||digit1 c
def badT (t:ByteArray×Int):Bool:=!bdd t.2||decide (t.2=0)
def unord:List (ByteArray×Int)->Bool
 | a :: b :: r=>!ltS a.1 b.1||unord (b :: r)
 | _=>false
def hasS (l:List ByteArray)(s:ByteArray):Bool:=l.any fun x=>eqS s x
def strayT (vars:List ByteArray)(t:ByteArray×Int):Bool:=!hasS vars t.1
def affE (vars:List ByteArray)(a:Af):Int:=
 if 10<a.ts.length then 2 else if bdd a.base=false then 9 else if a.ts.any badT then 9 else if unord a.ts then 7 else if a.ts.any (strayT vars) then 5 else 0
def zeroA (a:Af):Bool:=decide (a.base=0)&&decide (a.ts.length=0)
mutual
def parts:Ex->Nat
 | .mk _ ks=>1+partsL ks
def partsL:List Ex->Nat
 | []=>0
 | e :: r=>parts e+partsL r
end
mutual
def deep:Ex->Nat
 | .mk _ ks=>deepL ks+1
def deepL:List Ex->Nat
 | []=>0
 | e :: r=>max (deep e) (deepL r)
end
def fits (many level:Nat)(e:Ex):Bool:=decide (many+parts e<=32)&&decide (level+deep e<=7)
def opN (op:Int):Int:=if op=15 then 3 else if btw op 4 10 then 2 else if btw op 11 14 then 1 else -1
def kidsN (k op:Int):Int:=if k=1 then 0 else if k=2 then 0 else if k=3 then 0 else if k=4 then 1 else if k=5 then opN op else -1
def zeroE (h:EH)(n:Nat):Bool:=decide (h.k=0)&&decide (h.op=0)&&decide (h.lo=0)&&decide (h.hi=0)&&decide (h.n=0)&&decide (h.m=0)&&decide (h.buf=0)&&zeroA h.at_&&decide (n=0)
def plainX (h:EH):Bool:=
 if h.k=1 then decide (h.op=0)&&decide (h.lo=0)&&decide (h.hi=0)&&decide (h.m=0)&&decide (h.buf=0)&&zeroA h.at_
 else if h.k=2 then decide (h.op=0)&&decide (h.lo=0)&&decide (h.hi=0)&&decide (h.n=0)&&decide (h.m=0)&&decide (h.buf=0)
 else if h.k=3 then decide (h.op=0)&&decide (h.lo=0)&&decide (h.hi=0)&&decide (h.n=0)&&decide (h.m=0)
 else if h.k=4 then decide (h.op=0)&&decide (h.hi=0)
 else if h.op=12 then decide (h.n=0)&&decide (h.m=0)&&decide (h.buf=0)&&zeroA h.at_
 else if h.op=13\/h.op=14 then decide (h.lo=0)&&decide (h.hi=0)&&decide (h.m=0)&&decide (h.buf=0)&&zeroA h.at_
 else decide (h.lo=0)&&decide (h.hi=0)&&decide (h.n=0)&&decide (h.m=0)&&decide (h.buf=0)&&zeroA h.at_
def formX (h:EH)(n:Nat):Bool:=plainX h&&decide ((n:Int)=kidsN h.k h.op)
def rangeX (h:EH):Bool:=
 if h.k=1 then isWd h.n
 else if h.k=4 then isWd h.lo&&btw h.n 1 100000&&btw h.m 1 262144
 else if h.k=5 then
  if h.op=12 then isWd h.lo&&isWd h.hi&&decide (h.lo<=h.hi)
  else if h.op=13 then btw h.n 1 31
  else if h.op=14 then btw h.n 1 2147483647
  else true
 else true
def bufX (nb:Nat)(h:EH):Bool:=decide ((h.k=3\/h.k=4)/\¬(0<=h.buf/\h.buf<nb))
def headX (vars:List ByteArray)(nb:Nat)(h:EH)(n:Nat):Int:=
 if kidsN h.k h.op<0 then 4 else if formX h n=false then 3 else if rangeX h=false then 9 else if bufX nb h then 1 else affE vars h.at_
mutual
def exprE (vars:List ByteArray)(nb:Nat):Ex->Int
 | .mk h ks=>if headX vars nb h ks.length=0 then exprEL vars nb ks else headX vars nb h ks.length
def exprEL (vars:List ByteArray)(nb:Nat):List Ex->Int
 | []=>0
 | e :: r=>if exprE vars nb e=0 then exprEL vars nb r else exprE vars nb e
end
def loopF (h:SH):Bool:=!eqS h.var ⟨#[]⟩||decide (h.lo≠0)||decide (h.hi≠0)||decide (h.step≠0)||h.vec
def storeF (h:SH):Bool:=decide (h.buf≠0) || !zeroA h.at_ || !zeroE h.val.h h.val.ks.length
def unusedS (h:SH)(nb:Nat):Bool:=
 if h.k=1 then decide (0<h.conds.length)||storeF h
 else if h.k=2 then loopF h||storeF h
 else loopF h||decide (0<h.conds.length)||decide (0<nb)
def noStore (s:St):Bool:=decide (s.h.k≠3)
def firstE {α:Type}(f:α->Int):List α->Int
 | []=>0
 | a :: r=>if f a=0 then firstE f r else f a
def fieldsE (vars:List ByteArray)(nb:Nat)(h:SH)(body:List St):Int:=
 if h.k=1 then
  if nameB h.var=false then 5 else if hasS vars h.var then 6
  else if bdd h.lo=false\/bdd h.hi=false\/btw h.step 1 100000=false then 9
  else if h.vec=true/\body.any noStore=true then 3 else 0
 else if h.k=2 then
  if btw h.conds.length 1 4=false then 3 else firstE (affE vars) h.conds
 else
  if btw h.buf 0 (nb-1)=false then 1 else if affE vars h.at_=0 then(if fits 0 1 h.val then exprE vars nb h.val else 2) else affE vars h.at_
def headE (vars:List ByteArray)(nb before:Nat)(h:SH)(body:List St):Int:=
 if 3000<=before\/h.k=1/\8<=vars.length then 2 else if btw h.k 1 3=false then 4 else if unusedS h body.length then 3 else fieldsE vars nb h body
mutual
def cntS:St->Nat
 | .mk _ b=>1+cntL b
def cntL:List St->Nat
 | []=>0
 | s :: r=>cntS s+cntL r
end
def innerV (vars:List ByteArray)(h:SH):List ByteArray:=if h.k=1 then vars ++ [h.var] else vars
mutual
def stE (nb:Nat)(vars:List ByteArray)(before:Nat):St->Int
 | .mk h b=>if headE vars nb before h b=0 then stEL nb (innerV vars h) (before+1) b else headE vars nb before h b
def stEL (nb:Nat)(vars:List ByteArray)(before:Nat):List St->Int
 | []=>0
 | s :: r=>if stE nb vars before s=0 then stEL nb vars (before+cntS s) r else stE nb vars before s
end
def bufE (ahead:List Bf)(b:Bf):Int:=
 if nameB b.name=false then 5 else if ahead.any (fun x=>eqS x.name b.name) then 6 else if btw b.size 1 262144=false then 9
 else if 0<b.data.length/\((b.data.length:Int)≠b.size\/b.set=false) then 3 else if b.data.any (fun x=>!isWd x) then 9 else 0
def bufEL:List Bf->List Bf->Int
 | _,[]=>0
 | ahead,b :: r=>if bufE ahead b=0 then bufEL (ahead ++ [b]) r else bufE ahead b
def sizes:List Bf->Int
 | []=>0
 | b :: r=>b.size+sizes r
def bufsE (l:List Bf):Int:=if 400<l.length then 2 else if bufEL [] l=0 then(if 262144<sizes l then 2 else 0) else bufEL [] l
def formedE (bs:List Bf)(body:List St):Int:=if bufsE bs=0 then stEL bs.length [] 0 body else bufsE bs
abbrev Env:=List (ByteArray×Int)
def lk (env:Env)(v:ByteArray):Int:=((env.find? fun p=>eqS p.1 v).map Prod.snd).getD 0
def evA (env:Env)(a:Af):Int:=a.ts.foldl (fun n t=>n+t.2*lk env t.1) a.base
def manyS (h:SH):Nat:=if h.hi<=h.lo then 0 else((h.hi-h.lo+h.step-1) / h.step).toNat
def valS (h:SH)(k:Nat):Int:=h.lo+k*h.step
def envS (env:Env)(h:SH)(k:Nat):Env:=env ++ [(h.var,valS h k)]
def holdsS (env:Env)(h:SH):Bool:=h.conds.all fun a=>decide (0<=evA env a)
mutual
def runN (env:Env):St->Nat
 | .mk h b=>1+(if h.k=3 then 0 else if h.k=2 then(if holdsS env h then runNL env b else 0)
   else if h.vec then manyS h*(1+b.length) else((List.range (manyS h)).map fun k=>1+runNL (envS env h k) b).sum)
def runNL (env:Env):List St->Nat
 | []=>0
 | s :: r=>runN env s+runNL env r
end
mutual
def storesS:St->Nat
 | .mk h b=>(if h.k=3 then 1 else 0)+storesL b
def storesL:List St->Nat
 | []=>0
 | s :: r=>storesS s+storesL r
end
structure Inst where
 no:Nat
 s:SH
 env:Env
def vecI (env:Env)(h:SH):Nat->List St->List Inst
 | _,[]=>[]
 | no,s :: r=>((List.range (manyS h)).map fun k=>⟨no,s.h,envS env h k⟩) ++ vecI env h (no+1) r
mutual
def instS (env:Env)(no:Nat):St->List Inst
 | .mk h b=>if h.k=3 then [⟨no,h,env⟩] else if h.k=2 then(if holdsS env h then instL env no b else [])
   else if h.vec then vecI env h no b else((List.range (manyS h)).map fun k=>instL (envS env h k) no b).flatten
def instL (env:Env)(no:Nat):List St->List Inst
 | []=>[]
 | s :: r=>instS env no s ++ instL env (no+storesS s) r
end
def sizeB (bs:List Bf)(k:Int):Int:=((bs[k.toNat]?).map Bf.size).getD 0
def inX (bs:List Bf)(env:Env)(h:EH):Bool:=
 if h.k=2 then isWd (evA env h.at_)
 else if h.k=3 then decide (0<=evA env h.at_)&&decide (evA env h.at_<sizeB bs h.buf)
 else if h.k=4 then decide (0<=evA env h.at_)&&decide (evA env h.at_+h.n*(h.m-1)<sizeB bs h.buf)
 else true
mutual
def inE (bs:List Bf)(env:Env):Ex->Bool
 | .mk h ks=>inX bs env h&&inEL bs env ks
def inEL (bs:List Bf)(env:Env):List Ex->Bool
 | []=>true
 | e :: r=>inE bs env e&&inEL bs env r
end
def inI (bs:List Bf)(i:Inst):Bool:=decide (0<=evA i.env i.s.at_)&&decide (evA i.env i.s.at_<sizeB bs i.s.buf)&&inE bs i.env i.s.val
def checkE (bs:List Bf)(body:List St):Int:=
 if formedE bs body=0 then(if 2500000<runNL [] body then 2 else if(instL [] 0 body).all (inI bs) then 0 else 9) else formedE bs body
def Stm (w:World)(base g n:Nat):Prop:=∃(A:Option Addr) (len cap:Nat) (k:Int),
 Blk w g 25 #[.slice A len cap,.int .i64 k]/\base<=g/\0<=k/\k+n<=1152921504606846976/\len<=9223372036854775807/\
 (0<len->∃b o,A=some ⟨b,o,none⟩/\b<base/\∀i,i<len->∃x,w.cell? ⟨b,o+i,none⟩=some (.int .i64 x))
theorem Stm.lt {w:World}{base g n:Nat}(h:Stm w base g n):g<w.heap.size:=by
 obtain⟨A,len,cap,k,h,_⟩:=h;exact h.lt
theorem Stm.base {w:World}{base g n:Nat}(h:Stm w base g n):base<=g:=by
 obtain⟨A,len,cap,k,_,h,_⟩:=h;exact h
theorem Stm.less {w:World}{base g n m:Nat}(h:Stm w base g n)(hm:m<=n):Stm w base g m:=by
 obtain⟨A,len,cap,k,h1,h2,h3,h4,h5⟩:=h;exact⟨A,len,cap,k,h1,h2,h3,by omega,h5⟩
theorem Stm.ext {S:List Nat}{w w':World}{base g n:Nat}(h:Stm w base g n)(he:Ext S w w')(hg:g∉S)(hS:∀x,x∈S->base<=x):Stm w' base g n:=by
 obtain⟨A,len,cap,k,h1,h2,h3,h4,h5,h6⟩:=h;refine⟨A,len,cap,k,h1.ext he hg,h2,h3,h4,h5,fun hl=>?_⟩
 obtain⟨b,o,rfl,hb,hc⟩:=h6 hl;refine⟨b,o,rfl,hb,fun i hi=>?_⟩
 obtain⟨x,hx⟩:=hc i hi;exact⟨x,he.held hx (fun hm=>by have:=hS _ hm;simp at this;omega)⟩
theorem Stm.alloc {w:World}{base g n:Nat}(h:Stm w base g n)(o:Obj):Stm (w.alloc o) base g n:=h.ext (S:=[]) ((Ext.refl _ _).alloc o) (by simp) (by simp)
theorem below_any (x n:Int)(w:World)(hn:n<=9223372036854775807) :
  Calls Tryz.prog 33 #[.int .i64 x,.int .i64 n] w fun e w'=>∃r:Int,e=.returned (.int .i64 r)/\0<=r/\(1<=n->r<n)/\w=w':=by
 by_cases h1:n<1
 ·go_enter Tryz.func33,Tryz.ntmps33
  go_wp2
  go_ret
  exact⟨0,rfl,Int.le_refl _,fun h=>by omega,rfl⟩
 ·have hlo:=tmod_lo x n (by omega);have hhi:=tmod_hi x n (by omega);go_enter Tryz.func33,Tryz.ntmps33
  go_wp2
  ·go_ret
   exact⟨_,rfl,by omega,by omega,rfl⟩
  ·go_ret
   exact⟨_,rfl,by omega,by omega,rfl⟩
def Drawn (base g n:Nat)(w:World)(R:Int->Prop)(e:Ending)(w':World):Prop:=
 ∃r:Int,e=.returned (.int .i64 r)/\R r/\Ext [g] w w'/\Stm w' base g n
theorem next_any (base g n:Nat)(m:Int)(w:World)(h:Stm w base g (n+1))(hm:m<=9223372036854775807) :
  Calls Tryz.prog 9 #[.pointer (some ⟨g,0,none⟩),.int .i64 m] w (Drawn base g n w fun r=>0<=r/\(1<=m->r<m)):=by
 obtain⟨A,len,cap,k,hB,hbase,hk,hkn,hlen,hl⟩:=h;obtain⟨hc,hf⟩:=hB.both
 have hend:∀j,Ext [g] w ((w.setCell ⟨g,1,none⟩ (.int .i64 (k+1))).drewN j)/\Stm ((w.setCell ⟨g,1,none⟩ (.int .i64 (k+1))).drewN j) base g n:=by
  intro j;have hE:Ext [g] w ((w.setCell ⟨g,1,none⟩ (.int .i64 (k+1))).drewN j):=((Ext.refl _ _).setCell (.inl (by simp)) _).drewN j;refine⟨hE,A,len,cap,k+1,(hB.set_' 1 _ _ rfl).drewN j,hbase,by omega,by omega,hlen,fun h0=>?_⟩
  obtain⟨b,o,rfl,hb,hcc⟩:=hl h0;refine⟨b,o,rfl,hb,fun i hi=>?_⟩
  obtain⟨x,hx⟩:=hcc i hi;exact⟨x,hE.held hx (by simp;omega)⟩
 have HE:=hd hend;clear hend;by_cases h0:len=0
 ·subst h0;clear hl;go_enter Tryz.func9,Tryz.ntmps9
  go_wp2_with (go_at_call 33;refine(below_any _ _ _ (by omega)).mono ?_;rintro e w' ⟨r,rfl,hr0,hr1,rfl⟩)
  go_ret
  exact⟨_,rfl,⟨hr0,hr1⟩,HE.out 0⟩
 ·obtain⟨b,o,rfl,hb,hcc⟩:=hl (by omega);clear hl
  obtain⟨x,hx⟩:=hcc (k % len).toNat (by
   have:=Int.emod_lt_of_pos k (b:=(len:Int)) (by omega);have:=Int.emod_nonneg k (b:=(len:Int)) (by omega);omega)
  clear hcc;have hl0:((len:Int)==0)=false:=by simp;omega
  have hq0:0<=k / len:=Int.ediv_nonneg hk (by omega);have hm0:0<=k % len:=Int.emod_nonneg _ (by omega);have hm1:k % len<len:=Int.emod_lt_of_pos _ (by omega);go_enter Tryz.func9,Tryz.ntmps9
  go_wp2_with fail
  go_quiet (fail)
  go_wp2_with fail
  go_quiet (fail)
  go_wp2_with (go_at_call 33;refine(below_any _ _ _ (by omega)).mono ?_;rintro e w' ⟨r,rfl,hr0,hr1,rfl⟩)
  go_ret
  exact⟨_,rfl,⟨hr0,hr1⟩,HE.out _⟩
theorem range_any (base g n:Nat)(lo hi:Int)(w:World)(h:Stm w base g (n+1))(h1 : -1152921504606846976<=lo/\lo<=1152921504606846976)(h2 : -1152921504606846976<=hi/\hi<=1152921504606846976) :
  Calls Tryz.prog 11 #[.pointer (some ⟨g,0,none⟩),.int .i64 lo,.int .i64 hi] w (Drawn base g n w fun r=>lo<=r/\(r<=lo\/r<=hi)):=by
 obtain⟨a1,a2⟩:=h1;obtain⟨b1,b2⟩:=h2;by_cases hlt:hi<lo
 ·go_enter Tryz.func11,Tryz.ntmps11
  go_wp2_with fail
  go_ret
  exact⟨_,rfl,⟨by omega,by omega⟩,Ext.refl _ _,h.less (by omega)⟩
 ·go_enter Tryz.func11,Tryz.ntmps11
  go_wp2_with fail
  refine(next_any base g n _ _ h (by omega)).mono ?_
  rintro e w' ⟨r,rfl,⟨hr0,hr1⟩,hE,hS⟩;replace hr1:=hr1 (by omega);go_wp2_with fail
  go_ret
  exact⟨_,rfl,⟨by omega,by omega⟩,hE,hS⟩
def Flipped (base g n:Nat)(w:World)(e:Ending)(w':World):Prop:=
 ∃b:Bool,e=.returned (.bool b)/\Ext [g] w w'/\Stm w' base g n
theorem flip_any (base g n:Nat)(m:Int)(w:World)(h:Stm w base g (n+1))(hm:m<=9223372036854775807) :
  Calls Tryz.prog 13 #[.pointer (some ⟨g,0,none⟩),.int .i64 m] w (Flipped base g n w):=by
 go_enter Tryz.func13,Tryz.ntmps13
 go_wp2_with (go_at_call 9;refine(next_any base g n _ _ h (by omega)).mono ?_;rintro e w' ⟨r,rfl,⟨hr0,hr1⟩,hE,hS⟩)
 go_ret
 exact⟨_,rfl,hE,hS⟩
theorem pick_any (base g n b cap:Nat)(t:TypeId)(xs:List Int)(w:World)(h:Stm w base g (n+1))(hb:Blk w b t (Nums xs))(hbg:b≠g)(hx:0<xs.length/\xs.length<=9223372036854775807) :
  Calls Tryz.prog 12 #[.pointer (some ⟨g,0,none⟩),.slice (some ⟨b,0,none⟩) xs.length cap] w (Drawn base g n w fun r=>r∈xs):=by
 obtain⟨hx0,hx1⟩:=hx;have HB:=hd hb;clear hb;go_enter Tryz.func12,Tryz.ntmps12
 go_wp2_with fail
 refine(next_any base g n _ _ h (by omega)).mono ?_
 rintro e w' ⟨r,rfl,⟨hr0,hr1⟩,hE,hS⟩;replace hr1:=hr1 (by omega)
 have hc:w'.cell? ⟨b,0+r.toNat,none⟩=some (.int .i64 (xs[r.toNat]'(by omega))):=by
  rw[(HB.out.ext hE (by simpa using hbg)).cell];have hlt:r.toNat<xs.length:=by omega
  simp[Nums,hlt]
 have hmem:xs[r.toNat]'(by omega)∈xs:=List.getElem_mem _;generalize xs[r.toNat]'(by omega)=y at hc hmem;have HM:=hd hmem;clear hmem;rw[Nat.zero_add] at hc;go_wp2_with fail
 go_ret
 exact⟨_,rfl,HM.out,hE,hS⟩
theorem word_any (base g n:Nat)(w:World)(h:Stm w base g (n+3)) :
  Calls Tryz.prog 151 #[.pointer (some ⟨g,0,none⟩)] w (Drawn base g n w fun r=>-2147483648<=r/\r<=2147483647):=by
 go_enter Tryz.func151,Tryz.ntmps151
 go_wp2_with fail
 refine(next_any base g (n+2) _ _ h (by omega)).mono ?_
 rintro e w1 ⟨r,rfl,⟨hr0,hr1⟩,hE,hS⟩;replace hr1:=hr1 (by omega)
 go_wp2_with (first
  | (go_at_call 9;refine(next_any base g _ _ _ (by assumption) (by omega)).mono ?_;rintro e w2 ⟨q,rfl,⟨hq0,hq1⟩,hE2,hS2⟩;replace hq1:=hq1 (by omega))
  | (go_at_call 11;refine(range_any base g _ _ _ _ (by assumption) (by omega) (by omega)).mono ?_;rintro e w2 ⟨q,rfl,⟨hq0,hq1⟩,hE2,hS2⟩))
 ·go_ret
  exact⟨_,rfl,⟨by omega,by omega⟩,hE.trans hE2,hS2.less (by omega)⟩
 ·go_ret
  exact⟨_,rfl,⟨by omega,by omega⟩,hE.trans hE2,hS2.less (by omega)⟩
 ·rename_i hE3 hS3 _ _ _ _ _ _
  go_ret
  exact⟨_,rfl,⟨by omega,by omega⟩,(hE.trans (by assumption)).trans hE2,hS2.less (by omega)⟩
 ·go_ret
  exact⟨_,rfl,⟨by omega,by omega⟩,hE.trans hE2,hS2.less (by omega)⟩
section
structure Spec where
 α:Type
 d:α
 f:α->Value
 V:α->World->Prop
section
variable {P:Program} {ops:Array Oper} {J:Nat->World->Prop} {R:World->World->Prop} {S:Nat->Option Spec}
def someUpon (P:Program)(J':World->Prop)(V:Value->World->Prop):Result Next->Prop
 | .ok (.value u) w'=>V u w'/\J' w'
 | .ok .skip w'=>V undef w'/\J' w'
 | .ok (.enter f args) w'=>Calls P f args w' fun e w''=>∃v,e=.returned v/\V v w''/\J' w''
 | _=>False
def someAt (P:Program)(o:Oper)(a:Act)(J':World->Prop)(V:Value->World->Prop)(w:World):Prop:=someUpon P J' V ((execOp a.eval o).run P w)
def detUpon (u:Value)(w:World):Result Next->Prop
 | .ok (.value v) w'=>w'=w/\v=u
 | .ok .skip w'=>w'=w/\undef=u
 | _=>False
def detAt (P:Program)(o:Oper)(a:Act)(u:Value)(w:World):Prop:=detUpon u w ((execOp a.eval o).run P w)
theorem detAt_unique {o:Oper}{a:Act}{u v:Value}{w:World}(h:detAt P o a u w)(k:detAt P o a v w):u=v:=by
 unfold detAt at h k;generalize (execOp a.eval o).run P w=r at *;cases r with
 | ok n w'=>
  cases n<;>simp only[detUpon] at h k
  case value x=>exact h.2.symm.trans k.2
  case skip=>exact h.2.symm.trans k.2
 | halt x w'=>exact h.elim
def upd (F:Nat->World->Prop)(i:Nat)(A:World->Prop):Nat->World->Prop:=fun j w=>if j=i then A w else F j w
theorem upd_comm {F:Nat->World->Prop}{i j:Nat}{A B:World->Prop}(h:i≠j):upd (upd F i A) j B=upd (upd F j B) i A:=by
 funext k w
 unfold upd;by_cases h1:k=i
 ·subst h1;simp[h]
 ·by_cases h2:k=j
  ·subst h2;simp[Ne.symm h]
  ·simp[h1,h2]
theorem someAt_put {o:Oper}(hs:∀cs b,o.op≠.select cs b){a:Act}{dst:Option Tmp}{v:Value}(h:∀d,dst=some d->d∉o.looksAt ops){J':World->Prop}{V:Value->World->Prop}{w:World} :
  someAt P o (a.put dst v) J' V w ↔ someAt P o a J' V w:=by
 unfold someAt;rw[execOp_put (ops:=ops) o hs a dst v h]
theorem detAt_put {o:Oper}(hs:∀cs b,o.op≠.select cs b){a:Act}{dst:Option Tmp}{v:Value}(h:∀d,dst=some d->d∉o.looksAt ops){u:Value}{w:World} :
  detAt P o (a.put dst v) u w ↔ detAt P o a u w:=by
 unfold detAt;rw[execOp_put (ops:=ops) o hs a dst v h]
theorem wp_of_someAt {o:Oper}{a:Act}{J':World->Prop}{V:Value->World->Prop}{w:World}{K:Act->World->Prop}{Q:Exit->Act->World->Prop}(h:someAt P o a J' V w)
  (hK:∀v w',V v w'->J' w'->K (a.put o.dst v) w'):o.wp P a w K Q:=by
 unfold someAt at h;unfold Oper.wp;generalize (execOp a.eval o).run P w=r at *;cases r with
 | ok n w'=>
  cases n<;>simp only[someUpon] at h<;>simp only[Oper.upon]
  case value u=>exact hK _ _ h.1 h.2
  case skip=>exact hK _ _ h.1 h.2
  case enter f args=>exact h.mono fun e w'' ⟨v,he,hv,hj⟩=>by subst he;exact hK _ _ hv hj
 | halt x w'=>exact h.elim
theorem wp_of_detAt {o:Oper}{a:Act}{u:Value}{w:World}{K:Act->World->Prop}{Q:Exit->Act->World->Prop}(h:detAt P o a u w)(hK:K (a.put o.dst u) w):o.wp P a w K Q:=by
 unfold detAt at h;unfold Oper.wp;generalize (execOp a.eval o).run P w=r at *;cases r with
 | ok n w'=>
  cases n<;>simp only[detUpon] at h<;>simp only[Oper.upon]
  case value v=>obtain⟨rfl,rfl⟩:=h;exact hK
  case skip=>obtain⟨rfl,rfl⟩:=h;exact hK
 | halt x w'=>exact h.elim
def relB (ops:Array Oper)(p:Nat):Bool:=
 Region.noSelect ops&&decide (p<=ops.size)&&(List.range ops.size).all fun i=>match ops[i]? with
  | none=>false
  | some oi=>(oi.after.all fun e=>!Region.binds .any e||decide (e.on<i)) &&
    if i<p then(List.range i).all fun j=>(oi.after.any fun e=>Region.binds .any e&&e.on==j)||match ops[j]? with|some oj=>oj.apart ops oi|none=>false
    else(List.range i).all fun j=>(List.range i).any fun d=>match ops[i-d]? with|some ok=>decide (j<i-d)&&ok.after.any fun e=>Region.binds .any e&&e.on==j|none=>false
theorem relB_spec {p:Nat}(h:relB ops p=true){i:Nat}{oi:Oper}(hi:ops[i]? = some oi) :
  (∀e∈oi.after,Region.binds .any e=true->e.on<i)/\
  (i<p->∀j oj,j<i->ops[j]? = some oj->(∀e∈oi.after,Region.binds .any e=true->e.on≠j)->oj.apart ops oi=true)/\
  (p<=i->∀j,j<i->∃k ok,j<k/\k<=i/\ops[k]? = some ok/\∃e∈ok.after,Region.binds .any e=true/\e.on=j):=by
 simp only[relB,Bool.and_eq_true,List.all_eq_true,List.mem_range] at h;have hlt:i<ops.size:=(Array.getElem?_eq_some_iff.1 hi).1;have h1:=h.2 i hlt;simp only[hi,Bool.and_eq_true,Array.all_eq_true_iff_forall_mem,Bool.or_eq_true,Bool.not_eq_true',decide_eq_true_eq] at h1;refine⟨fun e he hb=>(h1.1 e he).resolve_left (by simp[hb]),fun hip j oj hj hoj hno=>?_,fun hip j hj=>?_⟩
 ·have h2:=h1.2;rw[if_pos hip] at h2;simp only[List.all_eq_true,List.mem_range,Bool.or_eq_true] at h2;rcases h2 j hj with h2|h2
  ·obtain⟨e,he,hb⟩:=Array.any_eq_true'.1 h2;simp only[Bool.and_eq_true,beq_iff_eq] at hb;exact absurd hb.2 (hno e he hb.1)
  ·simpa[hoj] using h2
 ·have h2:=h1.2;rw[if_neg (by omega)] at h2;simp only[List.all_eq_true,List.mem_range,List.any_eq_true] at h2;obtain⟨d,hd,h3⟩:=h2 j hj;cases hk:ops[i-d]? with
  | none=>simp[hk] at h3
  | some ok=>
   simp only[hk,Bool.and_eq_true,decide_eq_true_eq] at h3;obtain⟨e,he,hb⟩:=Array.any_eq_true'.1 h3.2;simp only[Bool.and_eq_true,beq_iff_eq] at hb;exact⟨i-d,ok,h3.1,by omega,hk,e,he,hb⟩
def Shut (ops:Array Oper)(listed:Array Bool):Prop:=∀k ok,ops[k]? = some ok->listed.getD k false=true->∀e∈ok.after,Region.binds .any e=true->listed.getD e.on false=true
theorem Shut.set {listed:Array Bool}(h:Shut ops listed){i:Nat}{oi:Oper}(hi:ops[i]? = some oi)(hall:∀e∈oi.after,Region.binds .any e=true->listed.getD e.on false=true):Shut ops (listed.setIfInBounds i true):=by
 intro k ok hk hl e he hb;by_cases hki:k=i
 ·subst hki;rw[hi] at hk;cases hk
  exact getD_set_true (hall e he hb)
 ·rw[getD_set_ne false (Ne.symm hki)] at hl;exact getD_set_true (h k ok hk hl e he hb)
theorem all_listed {p:Nat}(hB:relB ops p=true){listed:Array Bool}(hsh:Shut ops listed){i:Nat}{oi:Oper}(hi:ops[i]? = some oi)(hip:p<=i)
  (hall:∀e∈oi.after,Region.binds .any e=true->listed.getD e.on false=true):∀d j,i-j<=d->j<i->listed.getD j false=true:=by
 intro d
 induction d with
 | zero=>intro j h1 h2;omega
 | succ d ih=>
  intro j h1 h2;obtain⟨k,ok,hjk,hki,hok,e,he,hb,heq⟩:=(relB_spec hB hi).2.2 hip j h2;rcases Nat.lt_or_ge k i with hlt|hge
  ·have:=hsh k ok hok (ih k (by omega) hlt) e he hb;rw[heq] at this;exact this
  ·have hke:k=i:=by omega
   subst hke;rw[hi] at hok;cases hok
   have:=hall e he hb;rw[heq] at this;exact this
theorem relB_sel {p:Nat}(hB:relB ops p=true)(j:Nat)(o:Oper)(cs:Array SelectCase)(b:Bool)(ho:ops[j]? = some o):o.op≠.select cs b:=by
 simp only[relB,Bool.and_eq_true] at hB;exact Region.noSelect_spec hB.1.1 j o cs b ho
theorem relB_le {p:Nat}(hB:relB ops p=true):p<=ops.size:=by
 simp only[relB,Bool.and_eq_true,decide_eq_true_eq] at hB;exact hB.1.2
theorem getD_true_of {listed:Array Bool}{j:Nat}(hj:j<listed.size)(h:¬listed.getD j true=false):listed.getD j false=true:=by
 simp[Array.getElem?_eq_getElem hj] at h⊢;exact h
theorem getD_false_of {listed:Array Bool}{j:Nat}(hj:j<listed.size)(h:listed.getD j false=true):¬listed.getD j true=false:=by
 simp[Array.getElem?_eq_getElem hj] at h⊢;exact h
theorem wpAny_tail {p:Nat}{Q':Exit->Act->World->Prop}(hB:relB ops p=true) :
  ∀(l:List Oper) (k:Nat) (listed:Array Bool) (a:Act) (w:World),p<=k->listed.size=ops.size->k+l.length=ops.size->(∀j,l[j]? = ops[k+j]?)->
   (∀j,j<ops.size->(listed.getD j true=false ↔ k<=j))->Shut ops listed->wpList P ops Q' l a w->wpAny P .any ops Q' l.length listed a w
 | [],k,listed,a,w,hp,hsz,hlen,hl,hun,hsh,h=>by
  refine⟨?_,h⟩
  apply List.eq_nil_iff_forall_not_mem.2
  intro i hi;obtain⟨h0,o,ho,_⟩:=mem_ready.1 hi;have hio:i<ops.size:=(Array.getElem?_eq_some_iff.1 ho).1;have:=(hun i hio).1 h0;simp at hlen;omega
 | o :: l,k,listed,a,w,hp,hsz,hlen,hl,hun,hsh,h=>by
  have hk:ops[k]? = some o:=by simpa using(hl 0).symm
  have hko:k<ops.size:=(Array.getElem?_eq_some_iff.1 hk).1
  have hready:k∈Region.ready .any ops listed:=by
   refine mem_ready.2 ⟨(hun k hko).2 (Nat.le_refl _),o,hk,fun e he hb=>?_⟩
   have hlt:=(relB_spec hB hk).1 e he hb;exact getD_true_of (by omega) (fun hg=>by have:=(hun e.on (by omega)).1 hg;omega)
  refine⟨fun hr=>(by rw[hr] at hready;cases hready),fun i hi=>?_⟩
  obtain⟨h0,oi,hoi,hall⟩:=mem_ready.1 hi;have hio:i<ops.size:=(Array.getElem?_eq_some_iff.1 hoi).1;have hki:k<=i:=(hun i hio).1 h0
  have hik:i=k:=by
   rcases Nat.lt_or_ge k i with hlt|hge
   ·exfalso
    exact getD_false_of (by omega) (all_listed hB hsh hoi (by omega) hall _ k (Nat.le_refl _) hlt) ((hun k hko).2 (Nat.le_refl _))
   ·omega
  subst hik
  have hrec:∀a' w',wpList P ops Q' l a' w'->wpAny P .any ops Q' l.length (listed.setIfInBounds i true) a' w':=fun a' w' h'=>
   wpAny_tail hB l (i+1) _ a' w' (by omega) (by simpa using hsz) (by simp at hlen;omega) (fun j=>by have:=hl (j+1);simpa[Nat.add_assoc,Nat.add_comm 1 j] using this) (fun j hj=>by
    by_cases hji:j=i
    ·subst hji;simp[show j<listed.size by omega]
    ·rw[getD_set_ne true (Ne.symm hji),hun j hj];omega) (hsh.set hoi hall) h'
  unfold wpOp;rw[hoi];have hoe:oi=o:=by rw[hk] at hoi;exact(Option.some.inj hoi).symm
  subst hoe;unfold wpList at h;show if Region.wanted oi (yielded ops a.tmps)=true then _ else _
  split
  ·rename_i hw;rw[if_pos hw] at h;exact h.imp (Oper.wp_mono hrec) id
  ·rename_i hw;rw[if_neg hw] at h;exact hrec _ _ h
def places:Nat->List Oper->List (Nat×Oper)
 | _,[]=>[]
 | k,o :: l=>(k,o) :: places (k+1) l
theorem places_length:∀(l:List Oper) (k:Nat),(places k l).length=l.length
 | [],_=>rfl
 | _ :: l,k=>by simp[places,places_length l]
theorem mem_places:∀(l:List Oper) (k j:Nat) (o:Oper),(j,o)∈places k l ↔ k<=j/\l[j-k]? = some o
 | [],_,_,_=>by simp[places]
 | x :: l,k,j,o=>by
  simp only[places,List.mem_cons,Prod.mk.injEq,mem_places l (k+1) j o];rcases Nat.lt_trichotomy j k with h|h|h
  ·constructor
   ·rintro(⟨h1,_⟩|⟨h1,_⟩)<;>omega
   ·rintro⟨h1,_⟩;omega
  ·subst h;simp only[Nat.sub_self,List.getElem?_cons_zero,true_and,Nat.le_refl,Option.some.injEq];constructor
   ·rintro(h1|⟨h1,_⟩)
    ·exact h1.symm
    ·omega
   ·exact fun h1=>.inl h1.symm
  ·obtain⟨d,rfl⟩:∃d,j=k+1+d:=⟨j-k-1,by omega⟩;have e1:k+1+d-k=d+1:=by omega
   have e2:k+1+d-(k+1)=d:=by omega
   rw[e1,e2,List.getElem?_cons_succ];constructor
   ·rintro(⟨h1,_⟩|⟨_,h2⟩)
    ·omega
    ·exact⟨by omega,h2⟩
   ·rintro⟨_,h2⟩;exact .inr ⟨by omega,h2⟩
theorem places_sorted:∀(l:List Oper) (k:Nat),((places k l).map (·.1)).Pairwise (· < ·)
 | [],_=>by simp[places]
 | x :: l,k=>by
  simp only[places,List.map_cons,List.pairwise_cons];refine⟨fun j hj=>?_,places_sorted l (k+1)⟩
  obtain⟨⟨i,o⟩,hm,rfl⟩:=List.mem_map.1 hj;have:=(mem_places l (k+1) i o).1 hm;simp;omega
end
structure Good (ops:Array Oper)(i:Nat)(r:Nat->Bool):Prop where
 mine:r i=true
 ready:∀oi,ops[i]? = some oi->∀e∈oi.after,Region.binds .any e=true->r e.on=false
 shut:∀j oj,ops[j]? = some oj->r j=false->∀e∈oj.after,Region.binds .any e=true->r e.on=false
def off (r:Nat->Bool)(i:Nat):Nat->Bool:=fun j=>r j && !(j==i)
theorem Good.later {ops:Array Oper}{i:Nat}{r:Nat->Bool}(h:Good ops i r)(j:Nat)(hj:(ops[j]?.map fun oj=>oj.after.any fun e=>Region.binds .any e&&e.on==i)=some true):r j=true:=by
 cases ho:ops[j]? with
 | none=>rw[ho] at hj;cases hj
 | some oj=>
  rw[ho] at hj;simp only[Option.map_some,Option.some.injEq] at hj;obtain⟨e,he,hb⟩:=Array.any_eq_true'.1 hj;simp only[Bool.and_eq_true,beq_iff_eq] at hb;cases hr:r j with
  | true=>rfl
  | false=>
   have:=h.shut j oj ho hr e he hb.1;rw[hb.2,h.mine] at this;cases this
theorem getD_false_iff {a:Array Bool}{i:Nat}(hi:i<a.size)(h:a.getD i false=true):a.getD i true=true:=by
 simp[Array.getD_eq_getD_getElem?,hi] at h⊢;exact h
theorem getD_true_flip {a:Array Bool}{i:Nat}(hi:i<a.size)(h:a.getD i true=true):a.getD i false=true:=by
 simp[Array.getD_eq_getD_getElem?,hi] at h⊢;exact h
def rem (listed:Array Bool):Nat->Bool:=fun j=>!(listed.getD j true)
end
section
section
variable {P:Program} {ops:Array Oper} {p:Nat} {J:(Nat->Bool)->World->Prop} {R:Nat->World->World->Prop} {S:Nat->Option Spec}
def wpRelU (P:Program)(ops:Array Oper)(p:Nat)(J:(Nat->Bool)->World->Prop)(R:Nat->World->World->Prop)(S:Nat->Option Spec)(Q:Act->World->Prop):List (Nat×Oper)->Act->(Nat->World->Prop)->Prop
 | [],a,F=>∀w r,(∀j,j<ops.size->r j=decide (p<=j))->J r w->(∀i,F i w)->Q a w
 | (i,o) :: rest,a,F=>
  if Region.wanted o (yielded ops a.tmps) then
   match S i with
   | none=>∃u,(∀w r,Good ops i r->J r w->detAt P o a u w)/\wpRelU P ops p J R S Q rest (a.put o.dst u) F
   | some s=>(∀w r,Good ops i r->J r w->(∀e∈o.after,Region.binds .any e=true->F e.on w)->someAt P o a (fun w'=>J (off r i) w'/\R i w w') (fun v w'=>∃x,v=s.f x/\s.V x w') w)/\
     ∀x:s.α,wpRelU P ops p J R S Q rest (a.put o.dst (s.f x)) (upd F i (s.V x))
  else wpRelU P ops p J R S Q rest (a.put o.dst undef) F
def OneU (P:Program)(ops:Array Oper)(J:(Nat->Bool)->World->Prop)(R:Nat->World->World->Prop)(S:Nat->Option Spec)(i:Nat)(o:Oper)(a:Act)(F:Nat->World->Prop)(K:Act->(Nat->World->Prop)->Prop):Prop:=
 if Region.wanted o (yielded ops a.tmps) then
  match S i with
  | none=>∃u,(∀w r,Good ops i r->J r w->detAt P o a u w)/\K (a.put o.dst u) F
  | some s=>(∀w r,Good ops i r->J r w->(∀e∈o.after,Region.binds .any e=true->F e.on w)->someAt P o a (fun w'=>J (off r i) w'/\R i w w') (fun v w'=>∃x,v=s.f x/\s.V x w') w)/\
    ∀x:s.α,K (a.put o.dst (s.f x)) (upd F i (s.V x))
 else K (a.put o.dst undef) F
theorem wpRel_consU {Q:Act->World->Prop}{i:Nat}{o:Oper}{rest:List (Nat×Oper)}{a:Act}{F:Nat->World->Prop} :
  wpRelU P ops p J R S Q ((i,o) :: rest) a F=OneU P ops J R S i o a F (wpRelU P ops p J R S Q rest):=rfl
theorem One_swapU {i j:Nat}{oi oj:Oper}{a:Act}{F:Nat->World->Prop}{K:Act->(Nat->World->Prop)->Prop}(hij:i≠j)(hsi:∀cs b,oi.op≠.select cs b)(hsj:∀cs b,oj.op≠.select cs b)
  (hap:oj.apart ops oi=true) (hi:∀e∈oi.after,Region.binds .any e=true->e.on≠j) (hj:∀e∈oj.after,Region.binds .any e=true->e.on≠i)
  (hw:∃w r,Good ops i r/\J r w)
  (h:OneU P ops J R S j oj a F fun a' F'=>OneU P ops J R S i oi a' F' K):OneU P ops J R S i oi a F fun a' F'=>OneU P ops J R S j oj a' F' K:=by
 obtain⟨h1,h2,h3⟩:=Oper.apart_spec hap;have h2':∀d,oi.dst=some d->oj.dst≠some d:=fun d hd he=>h2 d he hd
 obtain⟨w0,k0,hg0,hw0⟩:=hw;have wi:∀v,Region.wanted oi (yielded ops (a.put oj.dst v).tmps)=Region.wanted oi (yielded ops a.tmps):=fun v=>wanted_put oi a oj.dst v h1
 have wj:∀v,Region.wanted oj (yielded ops (a.put oi.dst v).tmps)=Region.wanted oj (yielded ops a.tmps):=fun v=>wanted_put oj a oi.dst v h3
 unfold OneU at h⊢;simp only[wi,wj] at h⊢;by_cases cj:Region.wanted oj (yielded ops a.tmps)=true
 ·simp only[cj,if_true] at h⊢;by_cases ci:Region.wanted oi (yielded ops a.tmps)=true
  ·simp only[ci,if_true] at h⊢;cases hSi:S i with
   | none=>
    cases hSj:S j with
    | none=>
     simp only[hSi,hSj] at h⊢;obtain⟨u,hu,v,hv,hK⟩:=h;refine⟨v,fun w k hg hJ=>(detAt_put (ops:=ops) hsi h1).1 (hv w k hg hJ),u,fun w k hg hJ=>(detAt_put (ops:=ops) hsj h3).2 (hu w k hg hJ),?_⟩
     rw[Act.put_comm a v u h2'];exact hK
    | some s=>
     simp only[hSi,hSj] at h⊢;obtain⟨hu,hx⟩:=h;obtain⟨v,hv,_⟩:=hx s.d;refine⟨v,fun w k hg hJ=>(detAt_put (ops:=ops) hsi h1).1 (hv w k hg hJ),fun w k hg hJ hF=>(someAt_put (ops:=ops) hsj h3).2 (hu w k hg hJ hF),fun x=>?_⟩
     obtain⟨v',hv',hK⟩:=hx x;have:v'=v:=detAt_unique ((detAt_put (ops:=ops) hsi h1).1 (hv' w0 k0 hg0 hw0)) ((detAt_put (ops:=ops) hsi h1).1 (hv w0 k0 hg0 hw0));subst this;rw[Act.put_comm a _ _ h2'];exact hK
   | some t=>
    cases hSj:S j with
    | none=>
     simp only[hSi,hSj] at h⊢;obtain⟨u,hu,hv,hK⟩:=h;refine⟨fun w k hg hJ hF=>(someAt_put (ops:=ops) hsi h1).1 (hv w k hg hJ hF),fun y=>⟨u,fun w k hg hJ=>(detAt_put (ops:=ops) hsj h3).2 (hu w k hg hJ),?_⟩⟩
     rw[Act.put_comm a _ _ h2'];exact hK y
    | some s=>
     simp only[hSi,hSj] at h⊢;obtain⟨hu,hx⟩:=h;refine⟨fun w k hg hJ hF=>(someAt_put (ops:=ops) hsi h1).1 ((hx s.d).1 w k hg hJ (fun e he hb=>by have:=hi e he hb;simp only[upd,if_neg this];exact hF e he hb)),fun y=>⟨fun w k hg hJ hF=>(someAt_put (ops:=ops) hsj h3).2 (hu w k hg hJ (fun e he hb=>by have h0:=hF e he hb;simp only[upd,if_neg (hj e he hb)] at h0;exact h0)),fun x=>?_⟩⟩
     rw[Act.put_comm a _ _ h2',upd_comm hij];exact(hx x).2 y
  ·have ci':Region.wanted oi (yielded ops a.tmps)=false:=by simpa using ci
   simp only[ci',Bool.false_eq_true,if_false] at h⊢;cases hSj:S j with
   | none=>
    simp only[hSj] at h⊢;obtain⟨u,hu,hK⟩:=h;refine⟨u,fun w k hg hJ=>(detAt_put (ops:=ops) hsj h3).2 (hu w k hg hJ),?_⟩
    rw[Act.put_comm a _ _ h2'];exact hK
   | some s=>
    simp only[hSj] at h⊢;obtain⟨hu,hx⟩:=h;refine⟨fun w k hg hJ hF=>(someAt_put (ops:=ops) hsj h3).2 (hu w k hg hJ hF),fun x=>?_⟩
    rw[Act.put_comm a _ _ h2'];exact hx x
 ·have cj':Region.wanted oj (yielded ops a.tmps)=false:=by simpa using cj
  simp only[cj',Bool.false_eq_true,if_false] at h⊢;by_cases ci:Region.wanted oi (yielded ops a.tmps)=true
  ·simp only[ci,if_true] at h⊢;cases hSi:S i with
   | none=>
    simp only[hSi] at h⊢;obtain⟨v,hv,hK⟩:=h;refine⟨v,fun w k hg hJ=>(detAt_put (ops:=ops) hsi h1).1 (hv w k hg hJ),?_⟩
    rw[Act.put_comm a _ _ h2'];exact hK
   | some t=>
    simp only[hSi] at h⊢;obtain⟨hv,hK⟩:=h;refine⟨fun w k hg hJ hF=>(someAt_put (ops:=ops) hsi h1).1 (hv w k hg hJ hF),fun y=>?_⟩
    rw[Act.put_comm a _ _ h2'];exact hK y
  ·have ci':Region.wanted oi (yielded ops a.tmps)=false:=by simpa using ci
   simp only[ci',Bool.false_eq_true,if_false] at h⊢;rw[Act.put_comm a _ _ h2'];exact h
theorem One_monoU {i:Nat}{o:Oper}{a:Act}{F:Nat->World->Prop}{K K':Act->(Nat->World->Prop)->Prop}(hK:∀a F,K a F->K' a F)(h:OneU P ops J R S i o a F K):OneU P ops J R S i o a F K':=by
 unfold OneU at *;split
 ·rename_i c
  simp only[c,if_true] at h;cases hS:S i with
  | none=>simp only[hS] at h⊢;exact⟨h.choose,h.choose_spec.1,hK _ _ h.choose_spec.2⟩
  | some s=>simp only[hS] at h⊢;exact⟨h.1,fun x=>hK _ _ (h.2 x)⟩
 ·rename_i c
  simp only[c] at h;exact hK _ _ h
theorem wpRel_pullU {Q:Act->World->Prop}{i:Nat}{oi:Oper}(hw:∃w r,Good ops i r/\J r w){l2:List (Nat×Oper)}(hsi:∀cs b,oi.op≠.select cs b) :
  ∀(l1:List (Nat×Oper)) (a:Act) (F:Nat->World->Prop),
   (∀j oj,(j,oj)∈l1->i≠j/\(∀cs b,oj.op≠.select cs b)/\oj.apart ops oi=true/\(∀e∈oi.after,Region.binds .any e=true->e.on≠j)/\(∀e∈oj.after,Region.binds .any e=true->e.on≠i))->
   wpRelU P ops p J R S Q (l1 ++ (i,oi) :: l2) a F->OneU P ops J R S i oi a F (wpRelU P ops p J R S Q (l1 ++ l2))
 | [],_,_,_,h=>h
 | (j,oj) :: l1,a,F,hl,h=>by
  obtain⟨h1,h2,h3,h4,h5⟩:=hl j oj (by simp);rw[List.cons_append,wpRel_consU] at h;have h':=One_monoU (fun a' F' hh=>wpRel_pullU hw hsi l1 a' F' (fun k ok hk=>hl k ok (by simp[hk])) hh) h;exact One_swapU h1 hsi h2 h3 h4 h5 hw h'
theorem wpAny_of_relU {p m:Nat}{Q:Act->World->Prop}{Q':Exit->Act->World->Prop}(hB:relB ops p=true)
  (hQ:∀listed a w,listed.size=ops.size->(∀j,j<ops.size->(listed.getD j true=false ↔ p<=j))->Shut ops listed->Q a w->wpAny P .any ops Q' m listed a w)
  (hJ:∀i r w,(S i=none\/∃oi,ops[i]? = some oi/\oi.guard≠none)->Good ops i r->J r w->J (off r i) w) (hS:∀i s j,S i=some s->j≠i->∀x w w',R j w w'->s.V x w->s.V x w') :
  ∀(n:Nat) (l:List (Nat×Oper)) (listed:Array Bool) (a:Act) (w:World) (F:Nat->World->Prop),l.length=n->listed.size=ops.size->
   (∀j oj,(j,oj)∈l ↔ ops[j]? = some oj/\j<p/\listed.getD j true=false)->(∀j,j<ops.size->p<=j->listed.getD j true=false)->(l.map (·.1)).Pairwise (· < ·)->
   (∀i j w w',i≠j->R i w w'->F j w->F j w')->(∀j,F j w)->J (rem listed) w->Shut ops listed->wpRelU P ops p J R S Q l a F->wpAny P .any ops Q' (n+m) listed a w:=by
 have hns:=fun j o cs b=>relB_sel (ops:=ops) hB j o cs b
 have hle:=relB_le hB;intro n
 induction n with
 | zero=>
  intro l listed a w F hl hsz hmem htl hsort hst hF hj hsh h;have hl0:l=[]:=List.eq_nil_of_length_eq_zero hl;subst hl0;rw[Nat.zero_add]
  have hiff:∀j,j<ops.size->(listed.getD j true=false ↔ p<=j):=fun j hj'=>⟨fun h0=>by
   rcases Nat.lt_or_ge j p with hlt|hge
   ·have:=(hmem j _).2 ⟨Array.getElem?_eq_getElem hj',hlt,h0⟩;simp at this
   ·exact hge,htl j hj'⟩
  refine hQ _ _ _ hsz hiff hsh (h w (rem listed) (fun j hj'=>?_) hj hF)
  unfold rem;cases hc:listed.getD j true
  ·simp[(hiff j hj').1 hc]
  ·have:¬p<=j:=fun hp=>by rw[(hiff j hj').2 hp] at hc;cases hc
   simp[this]
 | succ n ih=>
  intro l listed a w F hl hsz hmem htl hsort hst hF hj hsh h
  have hfirst:∃i oi l',l=(i,oi) :: l':=by
   match l,hl with
   | (i,oi) :: l',_=>exact⟨i,oi,l',rfl⟩
  rw[show n+1+m=(n+m)+1 by omega];refine⟨fun hr=>?_,fun i hi=>?_⟩
  ·
   exfalso
   obtain⟨i,oi,l',rfl⟩:=hfirst;obtain⟨hoi,hip,hun⟩:=(hmem i oi).1 (by simp)
   have:i∈Region.ready .any ops listed:=by
    refine mem_ready.2 ⟨hun,oi,hoi,fun e he hb=>?_⟩
    have hlt:=(relB_spec hB hoi).1 e he hb;have hio:i<ops.size:=(Array.getElem?_eq_some_iff.1 hoi).1;have heo:ops[e.on]? = some (ops[e.on]'(by omega)):=Array.getElem?_eq_getElem (by omega);refine getD_true_of (by omega) fun hg=>?_
    have hm:=(hmem e.on _).2 ⟨heo,by omega,hg⟩;rcases List.mem_cons.1 hm with h1|h1
    ·have:=congrArg Prod.fst h1;simp at this;omega
    ·simp only[List.map_cons,List.pairwise_cons] at hsort;have:=hsort.1 e.on (List.mem_map.2 ⟨_,h1,rfl⟩);omega
   rw[hr] at this;cases this
  ·obtain⟨hun,oi,hoi,hall⟩:=mem_ready.1 hi;have hio:i<ops.size:=(Array.getElem?_eq_some_iff.1 hoi).1
   have hnolist:∀j,j<ops.size->listed.getD j true=false->∀e∈oi.after,Region.binds .any e=true->e.on≠j:=fun j hj' hjf e he hb heq=>by
    have h1:=hall e he hb;rw[heq] at h1;exact getD_false_of (by omega) h1 hjf
   have hip:i<p:=by
    rcases Nat.lt_or_ge i p with hlt|hge
    ·exact hlt
    ·exfalso
     obtain⟨j,oj,l',rfl⟩:=hfirst;obtain⟨hoj,hjp,hjf⟩:=(hmem j oj).1 (by simp);exact getD_false_of (by omega) (all_listed hB hsh hoi hge hall _ j (Nat.le_refl _) (by omega)) hjf
   have hin:=(hmem i oi).2 ⟨hoi,hip,hun⟩;obtain⟨l1,l2,rfl⟩:=List.append_of_mem hin
   have hnd:∀j oj,(j,oj)∈l1 ++ l2->j≠i:=by
    intro j oj hj' he;subst he;rw[List.map_append,List.map_cons,List.pairwise_append] at hsort;obtain⟨_,s2,s3⟩:=hsort;rcases List.mem_append.1 hj' with h1|h1
    ·have:=s3 j (List.mem_map.2 ⟨_,h1,rfl⟩) j (by simp);omega
    ·have:=(List.pairwise_cons.1 s2).1 j (List.mem_map.2 ⟨_,h1,rfl⟩);omega
   have hmem':∀j oj,(j,oj)∈l1 ++ l2 ↔ ops[j]? = some oj/\j<p/\(listed.setIfInBounds i true).getD j true=false:=by
    intro j oj;by_cases hji:j=i
    ·subst hji;refine⟨fun h'=>absurd rfl (hnd _ _ h'),fun h'=>?_⟩
     have hlt:j<listed.size:=by omega
     simp[hlt] at h'
    ·rw[getD_set_ne true (Ne.symm hji),<-hmem j oj];simp[hji]
   have htl':∀j,j<ops.size->p<=j->(listed.setIfInBounds i true).getD j true=false:=fun j hj' hpj=>by
    rw[getD_set_ne true (by omega)];exact htl j hj' hpj
   have hsort':((l1 ++ l2).map (·.1)).Pairwise (· < ·):=by
    refine List.Pairwise.sublist ?_ hsort
    exact List.Sublist.map _ (List.Sublist.append (List.Sublist.refl l1) (List.sublist_cons_self _ _))
   have hgood:Good ops i (rem listed):=by
    refine⟨by simp[rem,hun],fun o ho e he hb=>?_,fun j oj ho hr e he hb=>?_⟩
    ·rw[hoi] at ho;cases ho;have hlt:=(relB_spec hB hoi).1 e he hb;have:=getD_false_iff (i:=e.on) (by omega) (hall e he hb);simp[rem,this]
    ·have hlt:=(relB_spec hB ho).1 e he hb;have hjo:j<ops.size:=(Array.getElem?_eq_some_iff.1 ho).1
     have hjl:listed.getD j false=true:=by
      have h1:listed.getD j true=true:=by simpa[rem] using hr
      exact getD_true_flip (by omega) h1
     have:=getD_false_iff (i:=e.on) (by omega) (hsh j oj ho hjl e he hb);simp[rem,this]
   have hset:rem (listed.setIfInBounds i true)=off (rem listed) i:=by
    funext j
    by_cases hji:j=i
    ·subst hji;have:j<listed.size:=by omega
     simp[rem,off,this]
    ·simp[rem,off,getD_set_ne true (Ne.symm hji),hji]
   have hpull:=wpRel_pullU (P:=P) (ops:=ops) (p:=p) (J:=J) (R:=R) (S:=S) ⟨w,_,hgood,hj⟩ (fun cs b=>hns i oi cs b hoi) l1 a F (fun j oj hjl=>by
    have hjm:=(hmem j oj).1 (List.mem_append_left _ hjl);have hjo:j<ops.size:=(Array.getElem?_eq_some_iff.1 hjm.1).1
    have hlt:j<i:=by
     rw[List.map_append,List.map_cons,List.pairwise_append] at hsort;exact hsort.2.2 j (List.mem_map.2 ⟨_,hjl,rfl⟩) i (by simp)
    have hno:=hnolist j hjo hjm.2.2;exact⟨by omega,fun cs b=>hns j oj cs b hjm.1,(relB_spec hB hoi).2.1 hip j oj hlt hjm.1 hno,hno,fun e he hb=>by have:=(relB_spec hB hjm.1).1 e he hb;omega⟩) h
   have hlen:(l1 ++ l2).length=n:=by simp at hl⊢;omega
   unfold wpOp;rw[hoi];show if Region.wanted oi (yielded ops a.tmps)=true then _ else _
   unfold OneU at hpull;split
   ·rename_i hwd
    left
    simp only[hwd,if_true] at hpull;cases hSi:S i with
    | none=>
     simp only[hSi] at hpull;obtain⟨u,hu,hK⟩:=hpull;exact wp_of_detAt (hu w _ hgood hj) (ih (l1 ++ l2) _ _ w F hlen (by simpa using hsz) hmem' htl' hsort' hst hF (hset ▸ hJ i _ w (.inl hSi) hgood hj) (hsh.set hoi hall) hK)
    | some s=>
     simp only[hSi] at hpull;refine wp_of_someAt (hpull.1 w _ hgood hj (fun e he hb=>hF _)) fun v w' hv hj'=>?_
     obtain⟨x,rfl,hx⟩:=hv;refine ih (l1 ++ l2) _ _ w' (upd F i (s.V x)) hlen (by simpa using hsz) hmem' htl' hsort' ?_ ?_ (hset ▸ hj'.1) (hsh.set hoi hall) (hpull.2 x)
     ·intro i' j w1 w2 hne hr hf;unfold upd at hf⊢;split
      ·rename_i hh;simp only[hh,if_true] at hf;exact hS i s i' hSi (by rw[<-hh];exact hne) x _ _ hr hf
      ·rename_i hh;simp only[hh,if_false] at hf;exact hst _ _ _ _ hne hr hf
     ·intro j;unfold upd;split
      ·exact hx
      ·rename_i hh;exact hst i j _ _ (fun e=>hh e.symm) hj'.2 (hF j)
   ·rename_i hwd
    simp only[hwd] at hpull;exact ih (l1 ++ l2) _ _ w F hlen (by simpa using hsz) hmem' htl' hsort' hst hF (hset ▸ hJ i _ w (.inr ⟨oi,hoi,fun hg=>hwd (by simp[Region.wanted,hg])⟩) hgood hj) (hsh.set hoi hall) hpull
def relAtU (P:Program)(ops:Array Oper)(p:Nat)(J:(Nat->Bool)->World->Prop)(R:Nat->World->World->Prop)(S:Nat->Option Spec)(Q:Act->World->Prop):Nat->List Oper->Act->(Nat->World->Prop)->Prop
 | _,[],a,F=>∀w r,(∀j,j<ops.size->r j=decide (p<=j))->J r w->(∀i,F i w)->Q a w
 | k,o :: rest,a,F=>OneU P ops J R S k o a F (relAtU P ops p J R S Q (k+1) rest)
theorem relAt_eqU {Q:Act->World->Prop}:∀(l:List Oper) (k:Nat) (a:Act) (F:Nat->World->Prop),relAtU P ops p J R S Q k l a F->wpRelU P ops p J R S Q (places k l) a F
 | [],_,_,_,h=>h
 | _ :: l,k,a,F,h=>by
  unfold places;rw[wpRel_consU];exact One_monoU (fun a' F' hh=>relAt_eqU l (k+1) a' F' hh) h
theorem wp_region_relU {id:Nat}{Q:Exit->Act->World->Prop}{a:Act}{w:World}{l:List Oper}(p:Nat)(J:(Nat->Bool)->World->Prop)(R:Nat->World->World->Prop)(S:Nat->Option Spec)(hm:P.follows .mixedOrders=true)(hB:relB l.toArray p=true)
  (hJ:∀i r w,(S i=none\/∃oi,l.toArray[i]? = some oi/\oi.guard≠none)->Good l.toArray i r->J r w->J (off r i) w) (hS:∀i s j,S i=some s->j≠i->∀x w w',R j w w'->s.V x w->s.V x w') (h0:J (fun j=>decide (j<l.length)) w.drew)
  (h:relAtU P l.toArray p J R S (fun a w=>wpList P l.toArray Q (l.drop p) a w) 0 (l.take p) a (fun _ _=>True)):(Code.region id l.toArray true).wp P Q a w:=by
 have hle:p<=l.length:=by simpa using relB_le hB
 have hlen:(l.take p).length=p:=by simp;omega
 have hsz:l.toArray.size=p+(l.drop p).length:=by simp;omega
 refine wp_region_any hm ?_
 rw[hsz];refine wpAny_of_relU (m:=(l.drop p).length) (Q:=fun a w=>wpList P l.toArray Q (l.drop p) a w) hB ?_ hJ hS p (places 0 (l.take p)) _ a _ (fun _ _=>True) (by rw[places_length,hlen]) (by simp;omega) ?_ ?_ (places_sorted _ _) (by simp) (by simp) ?_ ?_ (relAt_eqU _ _ _ _ h)
 ·intro listed a' w' hs hun hsh h';exact wpAny_tail hB (l.drop p) p listed a' w' (Nat.le_refl _) hs hsz.symm (fun j=>by simp) hun hsh h'
 ·intro j oj;rw[mem_places];have hd:p+(l.drop p).length=l.length:=by simp;omega
  have hr:∀j,(Array.replicate (p+(l.drop p).length) false).getD j true=false ↔ j<l.length:=fun j=>by
   rw[hd];by_cases hj:j<l.length<;>simp[hj]
  rw[hr];simp only[Nat.zero_le,true_and,Nat.sub_zero,List.getElem?_toArray];constructor
  ·intro h1;rw[List.getElem?_take] at h1;split at h1
   ·rename_i hjp
    exact⟨h1,hjp,by have:=(List.getElem?_eq_some_iff.1 h1).1;omega⟩
   ·cases h1
  ·rintro⟨h1,h2,_⟩;rw[List.getElem?_take,if_pos h2];exact h1
 ·intro j hj _;have hd:p+(l.drop p).length=l.length:=by simp;omega
  have hj':j<l.length:=by simpa using hj
  rw[hd];simp[hj']
 ·have hrm:rem (Array.replicate (p+(l.drop p).length) false)=fun j=>decide (j<l.length):=by
   have hd:p+(l.drop p).length=l.length:=by simp;omega
   rw[hd];funext j
   by_cases hj:j<l.length<;>simp[rem,hj]
  rw[hrm];exact h0
 ·intro k ok _ hk;simp[Array.getD_eq_getD_getElem?,Array.getElem?_replicate] at hk;split at hk<;>simp at hk
section
variable {Q:Act->World->Prop} {k:Nat} {o:Oper} {rest:List Oper} {a:Act} {F:Nat->World->Prop}
theorem relAt_nilU (h:∀w r,(∀j,j<ops.size->r j=decide (p<=j))->J r w->(∀i,F i w)->Q a w):relAtU P ops p J R S Q k [] a F:=h
theorem relAt_detU (hS:S k=none)(hw:Region.wanted o (yielded ops a.tmps)=true)(h:∃u,(∀w n,Good ops k n->J n w->(execOp a.eval o).run P w=.ok (.value u) w)/\relAtU P ops p J R S Q (k+1) rest (a.put o.dst u) F) :
  relAtU P ops p J R S Q k (o :: rest) a F:=by
 obtain⟨u,hu,h⟩:=h;unfold relAtU OneU;rw[if_pos hw,hS];exact⟨u,fun w n hg hJ=>by unfold detAt;rw[hu w n hg hJ];exact⟨rfl,rfl⟩,h⟩
theorem relAt_skipU (hw:Region.wanted o (yielded ops a.tmps)=false)(h:relAtU P ops p J R S Q (k+1) rest (a.put o.dst undef) F):relAtU P ops p J R S Q k (o :: rest) a F:=by
 unfold relAtU OneU;rw[if_neg (by simp[hw])];exact h
theorem relAt_valueU (s:Spec)(hS:S k=some s)(hw:Region.wanted o (yielded ops a.tmps)=true)
  (hu:∀w n,Good ops k n->J n w->(∀e∈o.after,Region.binds .any e=true->F e.on w)->∃x w',(execOp a.eval o).run P w=.ok (.value (s.f x)) w'/\s.V x w'/\J (off n k) w'/\R k w w')
  (h:∀x:s.α,relAtU P ops p J R S Q (k+1) rest (a.put o.dst (s.f x)) (upd F k (s.V x))):relAtU P ops p J R S Q k (o :: rest) a F:=by
 unfold relAtU OneU;rw[if_pos hw,hS];refine⟨fun w n hg hJ hF=>?_,h⟩
 obtain⟨x,w',hr,hV,hJ',hR⟩:=hu w n hg hJ hF;unfold someAt;rw[hr];exact⟨⟨x,rfl,hV⟩,hJ',hR⟩
theorem relAt_callU (s:Spec)(hS:S k=some s)(hw:Region.wanted o (yielded ops a.tmps)=true)
  (hh:∃(f:FuncId) (args:Array Value),(∀w,(execOp a.eval o).run P w=.ok (.enter f args) w)/\
   (∀w n,Good ops k n->J n w->(∀e∈o.after,Region.binds .any e=true->F e.on w)->Calls P f args w fun e w'=>∃x,e=.returned (s.f x)/\s.V x w'/\J (off n k) w'/\R k w w'))
  (h:∀x:s.α,relAtU P ops p J R S Q (k+1) rest (a.put o.dst (s.f x)) (upd F k (s.V x))):relAtU P ops p J R S Q k (o :: rest) a F:=by
 obtain⟨f,args,hr,hu⟩:=hh;unfold relAtU OneU;rw[if_pos hw,hS];refine⟨fun w n hg hJ hF=>?_,h⟩
 unfold someAt;rw[hr w];exact(hu w n hg hJ hF).mono fun e w' ⟨x,he,hV,hJ',hR⟩=>⟨s.f x,he,⟨x,rfl,hV⟩,hJ',hR⟩
theorem relAt_sayU (s:Spec)(hS:S k=some s)(hw:Region.wanted o (yielded ops a.tmps)=true)(hf:∀x,s.f x=undef)
  (hu:∀w n,Good ops k n->J n w->(∀e∈o.after,Region.binds .any e=true->F e.on w)->∃x w',(execOp a.eval o).run P w=.ok .skip w'/\s.V x w'/\J (off n k) w'/\R k w w')
  (h:∀x:s.α,relAtU P ops p J R S Q (k+1) rest (a.put o.dst undef) (upd F k (s.V x))):relAtU P ops p J R S Q k (o :: rest) a F:=by
 unfold relAtU OneU;rw[if_pos hw,hS];refine⟨fun w n hg hJ hF=>?_,fun x=>by rw[hf];exact h x⟩
 obtain⟨x,w',hr,hV,hJ',hR⟩:=hu w n hg hJ hF;unfold someAt;rw[hr];exact⟨⟨x,(hf x).symm,hV⟩,hJ',hR⟩
end
end
end
section
def wsum (W:Nat->Nat)(r:Nat->Bool):Nat->Nat
 | 0=>0
 | p+1=>wsum W r p+(if r p then W p else 0)
theorem wsum_same {W:Nat->Nat}{r r':Nat->Bool}:∀p,(∀j,j<p->r j=r' j)->wsum W r p=wsum W r' p
 | 0,_=>rfl
 | p+1,h=>by unfold wsum;rw[wsum_same p (fun j hj=>h j (by omega)),h p (by omega)]
theorem wsum_none {W:Nat->Nat}{r:Nat->Bool}:∀p,(∀j,j<p->r j=false)->wsum W r p=0
 | 0,_=>rfl
 | p+1,h=>by unfold wsum;rw[wsum_none p (fun j hj=>h j (by omega)),h p (by omega)];rfl
theorem wsum_off {W:Nat->Nat}{r:Nat->Bool}{k:Nat}(hr:r k=true):∀p,k<p->wsum W r p=wsum W (off r k) p+W k
 | p+1,h=>by
  unfold wsum;by_cases hp:p=k
  ·subst hp;rw[hr,wsum_same (r':=off r p) p (fun j hj=>by simp[off];intro h1 h2;omega)];simp[off]
  ·rw[wsum_off hr p (by omega),show off r k p=r p by simp[off,hp]];omega
section
variable {P:Program} {ops:Array Oper} {W:Nat->Nat} {J:Nat->World->Prop} {R:World->World->Prop} {S:Nat->Option Spec}
def relAtW (P:Program)(ops:Array Oper)(W:Nat->Nat)(J:Nat->World->Prop)(R:World->World->Prop)(S:Nat->Option Spec)(Q:Act->World->Prop)(k:Nat)(l:List Oper)(a:Act)(F:Nat->World->Prop):Prop:=
 k+l.length<=ops.size->relAtU P ops (k+l.length) (fun r w=>J (wsum W r (k+l.length)) w) (fun _=>R) S Q k l a F
theorem wp_region_relW {id:Nat}{Q:Exit->Act->World->Prop}{a:Act}{w:World}{l:List Oper}(p:Nat)(W:Nat->Nat)(J:Nat->World->Prop)(R:World->World->Prop)(S:Nat->Option Spec)(hm:P.follows .mixedOrders=true)(hB:relB l.toArray p=true)
  (hJ:∀i k w,J (k+W i) w->J k w) (hS:∀i s,S i=some s->∀x w w',R w w'->s.V x w->s.V x w') (N:Nat) (hN:wsum W (fun _=>true) p=N) (h0:J N w.drew)
  (h:relAtW P l.toArray W J R S (fun a w=>wpList P l.toArray Q (l.drop p) a w) 0 (l.take p) a (fun _ _=>True)):(Code.region id l.toArray true).wp P Q a w:=by
 have hle:p<=l.length:=by simpa using relB_le hB
 have hlen:0+(l.take p).length=p:=by simp;omega
 have h1:=h (by rw[hlen];simpa using hle);rw[hlen] at h1;refine wp_region_relU p (fun r w=>J (wsum W r p) w) (fun _=>R) S hm hB (fun i r w _ hg hw=>?_) (fun i s _ hs _=>hS i s hs) ?_ h1
 ·by_cases hi:i<p
  ·refine hJ i _ w ?_
   rw[<-wsum_off hg.mine p hi];exact hw
  ·rw[wsum_same (r':=r) p (fun j hj=>by simp[off];intro _;omega)];exact hw
 ·rw[wsum_same (r':=fun _=>true) p (fun j hj=>by simp;omega),hN];exact h0
section
variable {Q:Act->World->Prop} {k:Nat} {o:Oper} {rest:List Oper} {a:Act} {F:Nat->World->Prop}
theorem wsum_at {n:Nat->Bool}(hg:Good ops k n)(p:Nat)(hp:k<p){w:World}(h:J (wsum W n p) w):J (wsum W (off n k) p+W k) w:=by rw[<-wsum_off hg.mine p hp];exact h
theorem relAtW_next (h:relAtW P ops W J R S Q (k+1) rest a F)(hle:k+(o :: rest).length<=ops.size):relAtU P ops (k+(o :: rest).length) (fun r w=>J (wsum W r (k+(o :: rest).length)) w) (fun _=>R) S Q (k+1) rest a F:=by
 have e:k+(o :: rest).length=k+1+rest.length:=by simp;omega
 rw[e] at hle⊢;exact h hle
theorem relAt_nilW (h:∀w,J 0 w->(∀i,F i w)->Q a w):relAtW P ops W J R S Q k [] a F:=fun _ w r hr hJ hF=>h w (by
 have:wsum W r (k+0)=0:=wsum_none _ (fun j hj=>by rw[hr j (by simp at *;omega)];simp;omega);rw[<-this];exact hJ) hF
theorem relAt_detW (hS:S k=none)(hw:Region.wanted o (yielded ops a.tmps)=true)(h:∃u,(∀w n,J (n+W k) w->(execOp a.eval o).run P w=.ok (.value u) w)/\relAtW P ops W J R S Q (k+1) rest (a.put o.dst u) F) :
  relAtW P ops W J R S Q k (o :: rest) a F:=fun hle=>by
 obtain⟨u,hu,h⟩:=h;exact relAt_detU hS hw ⟨u,fun w n hg hJ=>hu w _ (wsum_at hg _ (by simp) hJ),relAtW_next h hle⟩
theorem relAt_skipW (hw:Region.wanted o (yielded ops a.tmps)=false)(h:relAtW P ops W J R S Q (k+1) rest (a.put o.dst undef) F):relAtW P ops W J R S Q k (o :: rest) a F:=fun hle=>relAt_skipU hw (relAtW_next h hle)
theorem relAt_valueW (s:Spec)(hS:S k=some s)(hw:Region.wanted o (yielded ops a.tmps)=true)
  (hu:∀w n,J (n+W k) w->(∀e∈o.after,Region.binds .any e=true->F e.on w)->∃x w',(execOp a.eval o).run P w=.ok (.value (s.f x)) w'/\s.V x w'/\J n w'/\R w w')
  (h:∀x:s.α,relAtW P ops W J R S Q (k+1) rest (a.put o.dst (s.f x)) (upd F k (s.V x))):relAtW P ops W J R S Q k (o :: rest) a F:=fun hle=>relAt_valueU s hS hw (fun w n hg hJ hF=>hu w _ (wsum_at hg _ (by simp) hJ) hF) (fun x=>relAtW_next (h x) hle)
theorem relAt_callW (s:Spec)(hS:S k=some s)(hw:Region.wanted o (yielded ops a.tmps)=true)
  (hh:∃(f:FuncId) (args:Array Value),(∀w,(execOp a.eval o).run P w=.ok (.enter f args) w)/\
   (∀w n,J (n+W k) w->(∀e∈o.after,Region.binds .any e=true->F e.on w)->Calls P f args w fun e w'=>∃x,e=.returned (s.f x)/\s.V x w'/\J n w'/\R w w'))
  (h:∀x:s.α,relAtW P ops W J R S Q (k+1) rest (a.put o.dst (s.f x)) (upd F k (s.V x))):relAtW P ops W J R S Q k (o :: rest) a F:=fun hle=>by
 obtain⟨f,args,hr,hu⟩:=hh;exact relAt_callU s hS hw ⟨f,args,hr,fun w n hg hJ hF=>hu w _ (wsum_at hg _ (by simp) hJ) hF⟩ (fun x=>relAtW_next (h x) hle)
end
end
end
section
section
variable {P:Program} {ops:Array Oper} {J:Nat->World->Prop} {R:World->World->Prop} {S:Nat->Option Spec}
def relAt (P:Program)(ops:Array Oper)(J:Nat->World->Prop)(R:World->World->Prop)(S:Nat->Option Spec)(Q:Act->World->Prop)(k:Nat)(l:List Oper)(a:Act)(F:Nat->World->Prop):Prop:=
 relAtW P ops (fun _=>1) J R S Q k l a F
theorem wsum_one:∀p,wsum (fun _=>1) (fun _=>true) p=p
 | 0=>rfl
 | p+1=>by unfold wsum;rw[wsum_one p];rfl
theorem wp_region_rel {id:Nat}{Q:Exit->Act->World->Prop}{a:Act}{w:World}{l:List Oper}(p:Nat)(J:Nat->World->Prop)(R:World->World->Prop)(S:Nat->Option Spec)(hm:P.follows .mixedOrders=true)(hB:relB l.toArray p=true)
  (hJ:∀k w,J (k+1) w->J k w) (hS:∀i s,S i=some s->∀x w w',R w w'->s.V x w->s.V x w') (h0:J p w.drew)
  (h:relAt P l.toArray J R S (fun a w=>wpList P l.toArray Q (l.drop p) a w) 0 (l.take p) a (fun _ _=>True)):(Code.region id l.toArray true).wp P Q a w:=
 wp_region_relW p (fun _=>1) J R S hm hB (fun _ k w h=>hJ k w h) hS p (wsum_one p) h0 h
section
variable {Q:Act->World->Prop} {k:Nat} {o:Oper} {rest:List Oper} {a:Act} {F:Nat->World->Prop}
theorem relAt_nil (h:∀w,J 0 w->(∀i,F i w)->Q a w):relAt P ops J R S Q k [] a F:=relAt_nilW h
theorem relAt_det (hS:S k=none)(hw:Region.wanted o (yielded ops a.tmps)=true)(h:∃u,(∀w n,J (n+1) w->(execOp a.eval o).run P w=.ok (.value u) w)/\relAt P ops J R S Q (k+1) rest (a.put o.dst u) F) :
  relAt P ops J R S Q k (o :: rest) a F:=relAt_detW hS hw h
theorem relAt_skip (hw:Region.wanted o (yielded ops a.tmps)=false)(h:relAt P ops J R S Q (k+1) rest (a.put o.dst undef) F):relAt P ops J R S Q k (o :: rest) a F:=relAt_skipW hw h
theorem relAt_value (s:Spec)(hS:S k=some s)(hw:Region.wanted o (yielded ops a.tmps)=true)
  (hu:∀w n,J (n+1) w->(∀e∈o.after,Region.binds .any e=true->F e.on w)->∃x w',(execOp a.eval o).run P w=.ok (.value (s.f x)) w'/\s.V x w'/\J n w'/\R w w')
  (h:∀x:s.α,relAt P ops J R S Q (k+1) rest (a.put o.dst (s.f x)) (upd F k (s.V x))):relAt P ops J R S Q k (o :: rest) a F:=relAt_valueW s hS hw hu h
theorem relAt_call (s:Spec)(hS:S k=some s)(hw:Region.wanted o (yielded ops a.tmps)=true)
  (hh:∃(f:FuncId) (args:Array Value),(∀w,(execOp a.eval o).run P w=.ok (.enter f args) w)/\
   (∀w n,J (n+1) w->(∀e∈o.after,Region.binds .any e=true->F e.on w)->Calls P f args w fun e w'=>∃x,e=.returned (s.f x)/\s.V x w'/\J n w'/\R w w'))
  (h:∀x:s.α,relAt P ops J R S Q (k+1) rest (a.put o.dst (s.f x)) (upd F k (s.V x))):relAt P ops J R S Q k (o :: rest) a F:=relAt_callW s hS hw hh h
end
end
end
section
section
variable {P:Program} {ops:Array Oper} {p:Nat} {J:(Nat->Bool)->World->Prop} {R:World->World->Prop} {S:Nat->Option Spec}
section
variable {Q:Act->World->Prop} {k:Nat} {o:Oper} {rest:List Oper} {a:Act} {F:Nat->World->Prop}
end
end
end
end Go.Proofs.YtfppibmloloakaaGreatDoor
