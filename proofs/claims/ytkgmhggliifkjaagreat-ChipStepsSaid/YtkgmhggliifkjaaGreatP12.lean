import Derived.Test.YtkgmhggliifkjaaGreatP09
import Derived.Test.YtkgmhggliifkjaaGreatP11
namespace Go.Proofs.YtkgmhggliifkjaaGreat
open Go.RowKit Go.Proofs.Tryz
set_option linter.all false
set_option maxHeartbeats 8000000
set_option maxRecDepth 100000
section
structure CA where
 c:Nat
 eb:Nat
 mb:Nat
 mcap:Nat
 bo:Nat
 bcap:Nat
 so:Nat
 scap:Nat
 qb:Nat
 bk:Nat->Nat
 sb:Nat->Nat
 code:Option Addr
 ccap:Nat
 lv:Value
 tb:Int->Nat
 ta:Int->Option Addr
 tc:Int->Nat
 kd:Nat->Nat
def Ahb (m:Mc)(A:CA)(n:Nat):Array Value:=
 #[.int .i64 m.main,.int .i64 m.banks,.int .i64 m.bank,.int .i64 m.lanes,.int .i64 m.queues,.slice A.code n A.ccap,.slice (some A.eb) n n,.slice (some A.mb) m.main.toNat A.mcap,
  .slice (some A.bo) m.banks.toNat A.bcap,.slice (some A.so) m.banks.toNat A.scap]
def chF (m:Mc)(A:CA)(S:MS)(n:Nat)(i:Nat):Value:=
 if i<10 then(Ahb m A n).getD i undef
 else if i<26 then .int .i64 (S.r ((i-10:Nat):Int))
 else if i<90 then .int .i64 (S.v (((i-26) / 8:Nat):Int) (((i-26) % 8:Nat):Int))
 else if i<154 then .int .i64 (S.wt (((i-90) / 8:Nat):Int) (((i-90) % 8:Nat):Int))
 else if i<162 then .int .i64 (S.acc ((i-154:Nat):Int))
 else if i=162 then .slice (some A.qb) m.queues.toNat m.queues.toNat
 else if i=163 then A.lv
 else if i=164 then .int .i64 S.pc
 else if i=165 then .int .i64 S.cyc
 else if i=166 then .int .i64 (match S.fault with|none=>0|some (a,_)=>(a:Int))
 else if i=167 then .int .i64 (match S.fault with|none=>0|some (_,k)=>k)
 else if i=168 then .bool S.over
 else .bool S.fault.isSome
def Ce (m:Mc)(A:CA)(S:MS)(n:Nat):Array Value:=Array.ofFn (n:=170) fun i=>chF m A S n i
theorem Dp (m:Mc)(A:CA)(S:MS)(n:Nat){i:Nat}(h:i<170):(Ce m A S n)[i]? = some (chF m A S n i):=by simp[Ce,h]
theorem Pm {m:Mc}{A A':CA}{S S':MS}{n:Nat}(i:Nat){v:Value}(h:∀j,j<170->j≠i->chF m A S n j=chF m A' S' n j)(hv:i<170->v=chF m A' S' n i):(Ce m A S n).setIfInBounds i v=Ce m A' S' n:=by
 apply Array.ext_getElem?
 intro j;rw[Array.getElem?_setIfInBounds];by_cases hj:j<170
 ·by_cases hk:i=j
  ·subst hk;rw[ijp rfl,Dp _ _ _ _ hj,hv hj,ijp (by simp[Ce];exact hj)]
  ·rw[ijn hk,Dp _ _ _ _ hj,Dp _ _ _ _ hj,h j hj (Ne.symm hk)]
 ·have h1:(Ce m A S n)[j]? = none:=Array.getElem?_eq_none (by simp[Ce];omega);have h2:(Ce m A' S' n)[j]? = none:=Array.getElem?_eq_none (by simp[Ce];omega);have h3:(Ce m A S n).size=170:=by simp[Ce]
  rw[h1,h2,h3];split
  ·rw[ijn (by omega)]
  ·rfl
def Jn (t:Tr)(a:Option Addr)(cap:Nat):Array Value:=
 #[.int .i64 t.src.bank,.int .i64 t.src.lo,.int .i64 t.src.size,.int .i64 t.dst.bank,.int .i64 t.dst.lo,.int .i64 t.dst.size,.slice a t.words.length cap,.int .i64 t.ready]
def RdW (w:World)(A:Option Addr)(xs:List Int):Prop:=xs=[]\/∃b o,A=some ⟨b,o,none⟩/\∀k x,xs[k]? = some x->w.cell? ⟨b,o+k,none⟩=some (.int .i64 x)
theorem RdW.ext {S:List Nat}{w w':World}{A:Option Addr}{xs:List Int}(h:RdW w A xs)(hE:Ext S w w')(hS:∀a,A=some a->a.block∉S):RdW w' A xs:=by
 rcases h with h|⟨b,o,rfl,h⟩
 ·exact .inl h
 ·exact .inr ⟨b,o,rfl,fun k x hx=>hE.held (h k x hx) (show b∉S from hS ⟨b,o,none⟩ rfl)⟩
def UpW (w:World)(b:Nat)(t:TypeId)(n:Nat)(f:Nat->Value):Prop:=∃cur,Blk w b t cur/\∀i,i<n->cur[i]? = some (f i)
section
variable {w w':World} {b n:Nat} {t:TypeId} {f:Nat->Value}
theorem UpW.ext {S:List Nat}(h:UpW w b t n f)(hE:Ext S w w')(hb:b∉S):UpW w' b t n f:=by obtain⟨cur,h1,h2⟩:=h;exact⟨cur,h1.ext hE hb,h2⟩
theorem UpW.lt (h:UpW w b t n f):b<w.heap.size:=by obtain⟨cur,h1,_⟩:=h;exact h1.lt
theorem UpW.cell (h:UpW w b t n f){i:Nat}(hi:i<n):w.cell? ⟨b,i,none⟩=some (f i):=by obtain⟨cur,h1,h2⟩:=h;rw[h1.cell];exact h2 i hi
theorem UpW.frozen (h:UpW w b t n f)(i:Nat):w.frozen? ⟨b,i,none⟩=false:=by obtain⟨cur,h1,_⟩:=h;exact h1.frozen i
theorem UpW.set (h:UpW w b t n f)(i:Nat)(v:Value){g:Nat->Value}(hg:∀j,j<n->g j=if j=i then v else f j):UpW (w.setCell ⟨b,i,none⟩ v) b t n g:=by
 obtain⟨cur,h1,h2⟩:=h;refine⟨_,h1.set_ i v,fun j hj=>?_⟩
 rw[Array.getElem?_setIfInBounds,hg j hj];have h3:=(Array.getElem?_eq_some_iff.1 (h2 j hj)).1;by_cases hji:j=i
 ·subst hji;simp[h3]
 ·rw[ijn (Ne.symm hji),ijn hji];exact h2 j hj
theorem UpW.far (h:UpW w b t n f){p:Addr}(hp:b≠p.block)(u:Value):UpW (w.setCell p u) b t n f:=by obtain⟨cur,h1,h2⟩:=h;exact⟨cur,h1.far hp u,h2⟩
theorem UpW.same (h:UpW w b t n f){g:Nat->Value}(hg:∀j,j<n->g j=f j):UpW w b t n g:=by obtain⟨cur,h1,h2⟩:=h;exact⟨cur,h1,fun i hi=>by rw[hg i hi];exact h2 i hi⟩
theorem UpW.grown {row:Option Nat}(h:UpW w b t n f)(hg:w.grownBy w' row)(hb:row≠some b):UpW w' b t n f:=by obtain⟨cur,h1,h2⟩:=h;exact⟨cur,h1.grown hg hb,h2⟩
end
def Ec:List (Nat×Int)->List Value
 | []=>[]
 | (s,i) :: st=>Ec st ++ [.int .i64 (s:Int),.int .i64 (i-1)]
structure CKd (A:CA)(m:Mc)(xs:List Ins):Prop where
 ok:m.okB=true
 kc:A.kd A.c=0
 km:A.kd A.mb=1
 kb:A.kd A.bo=2
 ks:A.kd A.so=3
 kq:A.kd A.qb=4
 ke:A.kd A.eb=5
 ko:xs=[]\/∀a,A.code=some a->A.kd a.block=6
 kbk:∀b:Nat,b<m.banks.toNat->A.kd (A.bk b)=10+b
 ksb:∀b:Nat,b<m.banks.toNat->A.kd (A.sb b)=20+b
structure Abo (w:World)(A:CA)(m:Mc)(xs:List Ins):Prop where
 code:RdC w A.code xs
 ends:Blk w A.eb 3 (Db (Jm xs xs.length))
 banks:UpW w A.bo 22 m.banks.toNat fun b=>.slice (some ⟨A.bk b,0,none⟩) m.bank.toNat m.bank.toNat
 sets:UpW w A.so 80 m.banks.toNat fun b=>.slice (some ⟨A.sb b,0,none⟩) m.bank.toNat m.bank.toNat
 mcap:m.main.toNat<=A.mcap
structure Ms (w:World)(A:CA)(m:Mc)(mem:Int->Int->Int)(set:Int->Int->Bool):Prop where
 main:UpW w A.mb 3 m.main.toNat fun i=>.int .i64 (mem (-1) (i:Nat))
 bank:∀b:Nat,b<m.banks.toNat->UpW w (A.bk b) 3 m.bank.toNat fun i=>.int .i64 (mem (b:Nat) (i:Nat))
 set:∀b:Nat,b<m.banks.toNat->UpW w (A.sb b) 4 m.bank.toNat fun i=>.bool (set (b:Nat) (i:Nat))
def Od (A:CA)(q:Int->Option Tr)(i:Nat):Value:=match q (i:Nat) with|none=>.pointer none|some _=>.pointer (some ⟨A.tb (i:Nat),0,none⟩)
structure PQ (w:World)(A:CA)(m:Mc)(q:Int->Option Tr):Prop where
 queue:UpW w A.qb 94 m.queues.toNat (Od A q)
 trs:∀i:Nat,i<m.queues.toNat->∀t,q (i:Nat)=some t->Blk w (A.tb (i:Nat)) 93 (Jn t (A.ta (i:Nat)) (A.tc (i:Nat)))/\RdW w (A.ta (i:Nat)) t.words/\A.kd (A.tb (i:Nat))=30+i/\∀a,A.ta (i:Nat)=some a->A.kd a.block=8/\a.block<w.heap.size
def PL (w:World)(A:CA)(turns:List (Nat×Int)):Prop:=w.ownsRow 0 133 2 A.lv turns.length (Ec turns)/\∀g,A.lv.ownBlock=some g->A.kd g=7
structure Ag (w:World)(A:CA)(m:Mc)(xs:List Ins)(S:MS):Prop where
 chip:Blk w A.c 72 (Ce m A S xs.length)
 stat:Abo w A m xs
 mem:Ms w A m S.mem S.set
 que:PQ w A m S.q
 loops:PL w A S.turns
 kd:CKd A m xs
section
variable {w w':World} {A:CA} {m:Mc} {xs:List Ins} {S:MS} {T:List Nat}
theorem CKd.small (h:CKd A m xs):m.banks.toNat<=8/\m.queues.toNat<=4:=by have:=Bc h.ok;omega
theorem Abo.ext (h:Abo w A m xs)(k:CKd A m xs)(hE:Ext T w w')(hT:∀x∈T,A.kd x≠2/\A.kd x≠3/\A.kd x≠5/\A.kd x≠6):Abo w' A m xs where
 code:=h.code.exto hE (k.ko.imp id fun hh a ha hm=>by have h0:=hT _ hm;have h1:=hh a ha;omega)
 ends:=h.ends.ext hE (fun hm=>by have h0:=hT _ hm;have h1:=k.ke;omega)
 banks:=h.banks.ext hE (fun hm=>by have h0:=hT _ hm;have h1:=k.kb;omega)
 sets:=h.sets.ext hE (fun hm=>by have h0:=hT _ hm;have h1:=k.ks;omega)
 mcap:=h.mcap
theorem Ms.ext {mem:Int->Int->Int}{set:Int->Int->Bool}(h:Ms w A m mem set)(k:CKd A m xs)(hE:Ext T w w')(hT:∀x∈T,A.kd x≠1/\(A.kd x<10\/30<=A.kd x)):Ms w' A m mem set where
 main:=h.main.ext hE (fun hm=>by have h0:=hT _ hm;have h1:=k.km;omega)
 bank:=fun b hb=>(h.bank b hb).ext hE (fun hm=>by have h0:=hT _ hm;have h1:=k.kbk b hb;have:=k.small;omega)
 set:=fun b hb=>(h.set b hb).ext hE (fun hm=>by have h0:=hT _ hm;have h1:=k.ksb b hb;have:=k.small;omega)
theorem PQ.ext {q:Int->Option Tr}(h:PQ w A m q)(k:CKd A m xs)(hE:Ext T w w')(hT:∀x∈T,A.kd x≠4/\A.kd x≠8/\(A.kd x<30\/40<=A.kd x)):PQ w' A m q where
 queue:=h.queue.ext hE (fun hm=>by have h0:=hT _ hm;have h1:=k.kq;omega)
 trs:=fun i hi t ht=>by
  obtain⟨h1,h2,h3,h4⟩:=h.trs i hi t ht;exact⟨h1.ext hE (fun hm=>by have h0:=hT _ hm;have:=k.small;omega),h2.ext hE (fun a ha hm=>by have h0:=hT _ hm;have:=h4 a ha;omega),h3,fun a ha=>⟨(h4 a ha).1,nl (h4 a ha).2 hE.size⟩⟩
theorem PL.ext {turns:List (Nat×Int)}(h:PL w A turns)(hE:Ext T w w')(hT:∀x∈T,A.kd x≠7):PL w' A turns:=
 ⟨An h.1 hE (fun g hg hm=>by have h0:=hT _ hm;have:=h.2 g hg;omega),h.2⟩
theorem Ag.ext (h:Ag w A m xs S)(hE:Ext T w w')(hT:∀x∈T,40<=A.kd x):Ag w' A m xs S where
 chip:=h.chip.ext hE (fun hm=>by have h0:=hT _ hm;have h1:=h.kd.kc;omega)
 stat:=h.stat.ext h.kd hE (fun x hx=>by have:=hT x hx;omega)
 mem:=h.mem.ext h.kd hE (fun x hx=>by have:=hT x hx;omega)
 que:=h.que.ext h.kd hE (fun x hx=>by have:=hT x hx;omega)
 loops:=h.loops.ext hE (fun x hx=>by have:=hT x hx;omega)
 kd:=h.kd
theorem Ag.nil (h:Ag w A m xs S)(hE:Ext [] w w'):Ag w' A m xs S:=h.ext hE (by simp)
theorem Ag.setC (h:Ag w A m xs S)(i:Nat)(v:Value)(S':MS)(hm:S'.mem=S.mem)(hs:S'.set=S.set)(hq:S'.q=S.q)(ht:S'.turns=S.turns)
  (hc:∀j,j<170->j≠i->chF m A S xs.length j=chF m A S' xs.length j) (hv:i<170->v=chF m A S' xs.length i):Ag (w.setCell ⟨A.c,i,none⟩ v) A m xs S':=by
 have hE:Ext [A.c] w (w.setCell ⟨A.c,i,none⟩ v):=er.setCell (.inl (by simp)) _;have hT:∀x∈[A.c],A.kd x=0:=fun x hx=>by rw[ms hx];exact h.kd.kc
 refine⟨h.chip.set_' i v _ (Pm i hc hv),h.stat.ext h.kd hE (fun x hx=>by have:=hT x hx;omega),?_,?_,?_,h.kd⟩
 ·rw[hm,hs];exact h.mem.ext h.kd hE (fun x hx=>by have:=hT x hx;omega)
 ·rw[hq];exact h.que.ext h.kd hE (fun x hx=>by have:=hT x hx;omega)
 ·rw[ht];exact h.loops.ext hE (fun x hx=>by have:=hT x hx;omega)
theorem Ag.setReg (h:Ag w A m xs S)(d:Nat)(hd:d<16)(v:Int):Ag (w.setCell ⟨A.c,10+d,none⟩ v) A m xs {S with r:=Be S.r (d:Nat) v }:=by
 refine h.setC (10+d) _ _ rfl rfl rfl rfl (fun j hj hne=>?_) (fun _=>?_)
 ·unfold chF;dsimp only;by_cases h1:j<10
  ·rw[ijp h1,ijp h1]
  rw[ijn h1,ijn h1];by_cases h2:j<26
  ·rw[ijp h2,ijp h2,Cw _ _ (by omega)]
  rw[ijn h2,ijn h2]
 ·unfold chF;dsimp only;rw[ijn (by omega),ijp (by omega),show((10+d-10:Nat):Int)=(d:Nat) by omega,Bt]
theorem Oe {m:Mc}{A:CA}{S S':MS}{n j:Nat}(hr:S'.r=S.r)(hv:S'.v=S.v)(hw:S'.wt=S.wt)(ha:S'.acc=S.acc)(h4:j=164->S'.pc=S.pc)(h5:j=165->S'.cyc=S.cyc)(h6:j=166\/j=167\/169<=j->S'.fault=S.fault)(h8:j=168->S'.over=S.over):chF m A S n j=chF m A S' n j:=by
 unfold chF;rw[hr,hv,hw,ha];by_cases c1:j<10
 ·rw[ijp c1,ijp c1]
 rw[ijn c1,ijn c1];by_cases c2:j<26
 ·rw[ijp c2,ijp c2]
 rw[ijn c2,ijn c2];by_cases c3:j<90
 ·rw[ijp c3,ijp c3]
 rw[ijn c3,ijn c3];by_cases c4:j<154
 ·rw[ijp c4,ijp c4]
 rw[ijn c4,ijn c4];by_cases c5:j<162
 ·rw[ijp c5,ijp c5]
 rw[ijn c5,ijn c5];by_cases c6:j=162
 ·rw[ijp c6,ijp c6]
 rw[ijn c6,ijn c6];by_cases c7:j=163
 ·rw[ijp c7,ijp c7]
 rw[ijn c7,ijn c7];by_cases c8:j=164
 ·rw[ijp c8,ijp c8,h4 c8]
 rw[ijn c8,ijn c8];by_cases c9:j=165
 ·rw[ijp c9,ijp c9,h5 c9]
 rw[ijn c9,ijn c9];by_cases c10:j=166
 ·rw[ijp c10,ijp c10,h6 (.inl c10)]
 rw[ijn c10,ijn c10];by_cases c11:j=167
 ·rw[ijp c11,ijp c11,h6 (.inr (.inl c11))]
 rw[ijn c11,ijn c11];by_cases c12:j=168
 ·rw[ijp c12,ijp c12,h8 c12]
 rw[ijn c12,ijn c12,h6 (.inr (.inr (by omega)))]
theorem Ag.setPc (h:Ag w A m xs S)(p:Nat):Ag (w.setCell ⟨A.c,164,none⟩ p) A m xs {S with pc:=p }:=
 h.setC 164 _ _ rfl rfl rfl rfl (fun j hj hne=>Oe rfl rfl rfl rfl (fun h=>absurd h hne) (fun _=>rfl) (fun _=>rfl) (fun _=>rfl)) (fun _=>rfl)
theorem Ag.setCyc (h:Ag w A m xs S)(p:Int):Ag (w.setCell ⟨A.c,165,none⟩ p) A m xs {S with cyc:=p }:=
 h.setC 165 _ _ rfl rfl rfl rfl (fun j hj hne=>Oe rfl rfl rfl rfl (fun _=>rfl) (fun h=>absurd h hne) (fun _=>rfl) (fun _=>rfl)) (fun _=>rfl)
theorem Ag.setOver (h:Ag w A m xs S):Ag (w.setCell ⟨A.c,168,none⟩ (.bool true)) A m xs {S with over:=true }:=
 h.setC 168 _ _ rfl rfl rfl rfl (fun j hj hne=>Oe rfl rfl rfl rfl (fun _=>rfl) (fun _=>rfl) (fun _=>rfl) (fun h=>absurd h hne)) (fun _=>rfl)
theorem Ag.cell (h:Ag w A m xs S){i:Nat}(hi:i<170){v:Value}(hv:chF m A S xs.length i=v):w.cell? ⟨A.c,i,none⟩=some v:=by
 rw[h.chip.cell,Dp _ _ _ _ hi,hv]
theorem Ag.reg (h:Ag w A m xs S){i:Nat}(hi:i<16):w.cell? ⟨A.c,10+i,none⟩=some (.int .i64 (S.r (i:Nat))):=
 h.cell (by omega) (by unfold chF;rw[ijn (by omega),ijp (by omega),show((10+i-10:Nat):Int)=(i:Nat) by omega])
theorem Ag.lt (h:Ag w A m xs S):A.c<w.heap.size:=h.chip.lt
end
end
section
attribute [local irreducible] Ax
def Ar.cells (a:Ar):List Value:=[.int .i64 a.bank,.int .i64 a.lo,.int .i64 a.size]
def RdA (w:World)(A:Option Addr)(l:List Ar):Prop:=l=[]\/∃b o,A=some ⟨b,o,none⟩/\∀k a,l[k]? = some a->w.cell? ⟨b,o+k*3,none⟩=some (.int .i64 a.bank)/\w.cell? ⟨b,o+k*3+1,none⟩=some (.int .i64 a.lo)/\w.cell? ⟨b,o+k*3+2,none⟩=some (.int .i64 a.size)
theorem RdA.ext {S:List Nat}{w w':World}{A:Option Addr}{l:List Ar}(h:RdA w A l)(hE:Ext S w w')(hS:∀a,A=some a->a.block∉S):RdA w' A l:=by
 rcases h with h|⟨b,o,rfl,h⟩
 ·exact .inl h
 ·refine .inr ⟨b,o,rfl,fun k x hx=>?_⟩
  have hb:b∉S:=hS ⟨b,o,none⟩ rfl;obtain⟨h1,h2,h3⟩:=h k x hx;exact⟨hE.held h1 hb,hE.held h2 hb,hE.held h3 hb⟩
theorem RdA.at {w:World}{A:Option Addr}{l:List Ar}(h:RdA w A l){k:Nat}{a:Ar}(hx:l[k]? = some a) :
  ∃b o,A=some ⟨b,o,none⟩/\b<w.heap.size/\w.cell? ⟨b,o+k*3,none⟩=some (.int .i64 a.bank)/\w.cell? ⟨b,o+k*3+1,none⟩=some (.int .i64 a.lo)/\w.cell? ⟨b,o+k*3+2,none⟩=some (.int .i64 a.size):=by
 rcases h with h|⟨b,o,rfl,h⟩
 ·simp[h] at hx
 ·obtain⟨h1,h2,h3⟩:=h k a hx;exact⟨b,o,rfl,World.block_lt_of_cell? w ⟨b,_,none⟩ h1,h1,h2,h3⟩
theorem RdA.one {w:World}{b:Nat}{a:Ar}{x y z:Value}(h:Blk w b 91 #[x,y,z])(hx:x=.int .i64 a.bank)(hy:y=.int .i64 a.lo)(hz:z=.int .i64 a.size):RdA w (some b) [a]:=by
 subst hx hy hz;refine .inr ⟨b,0,rfl,fun k u hu=>?_⟩
 match k,hu with
 | 0,hu=>cases hu;exact⟨h.cell 0,h.cell 1,h.cell 2⟩
theorem Xg {w:World}{A:CA}{m:Mc}{xs:List Ins}{S:MS}(h:Ag w A m xs S)(a:Ar)(hs:0<=a.size/\a.size<=4096) :
  Calls prog 77 #[.pointer (some A.c),.agg #[.int .i64 a.bank,.int .i64 a.lo,.int .i64 a.size]] w fun e w'=>e=.returned (.bool (Hm m a))/\Ext [] w w':=by
 have hm:=Bc h.kd.ok;have q0:=h.cell (i:=0) (by omega) (v:=m.main) rfl;have q2:=h.cell (i:=2) (by omega) (v:=m.bank) rfl;have ql:=h.lt;have HO:Hd (Hm m a=(decide (a.lo<0)||decide ((if a.bank<0 then m.main else m.bank)-a.size<a.lo))):=hd rfl;clear h;obtain⟨hs0,hs1⟩:=hs;obtain⟨ab,al,az⟩:=a;simp only at *;by_cases h1:ab<0
 ·by_cases h2:al<0
  ·have HV:Hd (Hm m ⟨ab,al,az⟩=true):=hd (by rw[HO.o];simp[h2]);go_enter func77,ntmps77
   go_wp2_with fail
   go_ret
   exact⟨Ay HV.o.symm,er.alloc _⟩
  ·have HV:Hd (Hm m ⟨ab,al,az⟩=decide (m.main-az<al)):=hd (by rw[HO.o,decide_eq_false h2,ijp h1];rfl);have hd2:decide (al<0)=false:=decide_eq_false h2;go_enter func77,ntmps77
   go_wp2_with fail
   go_ret
   exact⟨Ay HV.o.symm,er.alloc _⟩
 ·by_cases h2:al<0
  ·have HV:Hd (Hm m ⟨ab,al,az⟩=true):=hd (by rw[HO.o];simp[h2]);go_enter func77,ntmps77
   go_wp2_with fail
   go_ret
   exact⟨Ay HV.o.symm,er.alloc _⟩
  ·have HV:Hd (Hm m ⟨ab,al,az⟩=decide (m.bank-az<al)):=hd (by rw[HO.o,decide_eq_false h2,ijn h1];rfl);have hd2:decide (al<0)=false:=decide_eq_false h2;go_enter func77,ntmps77
   go_wp2_with fail
   go_ret
   exact⟨Ay HV.o.symm,er.alloc _⟩
theorem Acq (a b:Ar)(w:World)(ha : -4294967296<=a.lo/\a.lo<=4294967296/\0<=a.size/\a.size<=1048576)(hb : -4294967296<=b.lo/\b.lo<=4294967296/\0<=b.size/\b.size<=1048576) :
  Calls prog 78 #[.agg #[.int .i64 a.bank,.int .i64 a.lo,.int .i64 a.size],.agg #[.int .i64 b.bank,.int .i64 b.lo,.int .i64 b.size]] w fun e w'=>e=.returned (.bool (a.meets b))/\Ext [] w w':=by
 obtain⟨ab,al,az⟩:=a;obtain⟨bb,bl,bs⟩:=b;simp only at *;obtain⟨ha0,ha1,ha2,ha3⟩:=ha;obtain⟨hb0,hb1,hb2,hb3⟩:=hb;by_cases h1:ab=bb
 ·subst h1;by_cases h2:al<bl+bs
  ·have HV:Hd ((Ar.mk ab al az).meets ⟨ab,bl,bs⟩=decide (bl<al+az)):=hd (by simp[Ar.meets,h2]);go_enter func78,ntmps78
   go_wp2_with fail
   go_ret
   exact⟨Ay HV.o.symm,(er.alloc _).alloc _⟩
  ·have HV:Hd ((Ar.mk ab al az).meets ⟨ab,bl,bs⟩=false):=hd (by simp only[Ar.meets,decide_eq_false h2];simp);have hd2:decide (al<bl+bs)=false:=decide_eq_false h2;go_enter func78,ntmps78
   go_wp2_with fail
   go_ret
   exact⟨Ay HV.o.symm,(er.alloc _).alloc _⟩
 ·have hd1:(ab==bb)=false:=by simpa using h1
  have H:=hd h1;clear h1;go_enter func78,ntmps78
  go_wp2_with fail
  go_ret
  exact⟨Ay (by simp[Ar.meets,H.o]),(er.alloc _).alloc _⟩
theorem Sx (c:Nat)(p:Ar->Bool)(A:Option Addr)(n cap:Nat)(l:List Ar)(w:World)(hF:∀a,a∈l->∀W,Ext [] w W->Calls prog 77 #[.pointer (some c),.agg #[.int .i64 a.bank,.int .i64 a.lo,.int .i64 a.size]] W (fun e w'=>e=.returned (.bool (p a))/\Ext [] W w'))(h:RdA w A l)(hn:l.length=n)(hl:n<=100) :
  Calls prog 112 #[.slice A n cap,.func (.func 77) #[.pointer (some c)] #[]] w fun e w'=>∃r:Int,e=.returned (.int .i64 r)/\(0<=r ↔ l.any p=true)/\Ext [] w w':=by
 have HH:=hd h;have HF:=hd hF;have HN:=hd hn;clear h hF hn;go_enter func112,ntmps112
 go_wp2_with fail
 go_loopw [8] (fun i wr=>∃k:Nat,i=.int .i64 k/\k<=n/\Hd (∀j y,j<k->l[j]? = some y->p y=false)/\Hd (Ext [] w wr)) (fun i _=>(n-intOf i).toNat)
 case atStart=>exact⟨0,rfl,Nat.zero_le _,hd fun j y hj=>absurd hj (by omega),hd er⟩
 case round=>
  obtain⟨k,rfl,hk,HNO,HE⟩:=hrel;by_cases hlt:k<n
  ·obtain⟨a,ha⟩:∃a,l[k]? = some a:=⟨_,List.getElem?_eq_getElem (by have:=HN.o;omega)⟩;obtain⟨b,o,rfl,hbl,h1,h2,h3⟩:=(HH.o.ext HE.o (by simp)).at ha;have HX:=hd ha;have HFA:=hd (HF.o a (ilm ha));obtain⟨ab,al,az⟩:=a;simp only at h1 h2 h3;clear ha;go_wp2_with fail
   refine(HFA.o _ HE.o).mono ?_
   rintro e w2 ⟨rfl,hE2⟩;have HE2:=hd (HE.o.trans hE2);clear hE2 h1 h2 h3;cases hq:p ⟨ab,al,az⟩
   ·have HQ:=hd hq;clear hq;go_wp2_with fail
    go_roundw
    case rel=>
     refine⟨k+1,by go_num,by omega,hd fun j z hj hz=>?_,HE2⟩
     rcases Nat.lt_or_ge j k with h1|h1
     ·exact HNO.o j z h1 hz
     ·have:j=k:=by omega
      subst this;rw[HX.o] at hz;cases hz
      exact HQ.o
    case measure=>simp[intOf];omega
   ·have HQ:=hd hq;clear hq;go_wp2_with fail
    go_ret
    refine⟨_,rfl,?_,HE2.o⟩
    constructor
    ·intro _;exact List.any_eq_true.2 ⟨_,ilm HX.o,HQ.o⟩
    ·intro _;omega
  ·go_wp2_with fail
   go_ret
   refine⟨_,rfl,?_,HE.o⟩
   constructor
   ·intro h0;omega
   ·intro hm;obtain⟨f,hf,hq⟩:=List.any_eq_true.1 hm;obtain⟨i,hi⟩:=List.getElem?_of_mem hf;have hil:=(ils hi).1;have:=HNO.o i f (by have:=HN.o;omega) hi;rw[hq] at this;cases this
theorem Kg (c:Nat)(p:Ar->Bool)(A:Option Addr)(n cap:Nat)(l:List Ar)(w:World)(hF:∀a,a∈l->∀W,Ext [] w W->Calls prog 77 #[.pointer (some c),.agg #[.int .i64 a.bank,.int .i64 a.lo,.int .i64 a.size]] W (fun e w'=>e=.returned (.bool (p a))/\Ext [] W w'))(h:RdA w A l)(hn:l.length=n)(hl:n<=100) :
  Calls prog 76 #[.slice A n cap,.func (.func 77) #[.pointer (some c)] #[]] w fun e w'=>e=.returned (.bool (l.any p))/\Ext [] w w':=by
 go_enter func76,ntmps76
 go_wp2_with fail
 refine(Sx c p A n cap l w hF h hn hl).mono ?_
 rintro e w' ⟨r,rfl,hr,hE⟩;have HR:=hd hr;have HE:=hd hE;clear hr hE;go_wp2_with fail
 go_ret
 exact⟨Ay (by rw[Bool.eq_iff_iff];simp only[decide_eq_true_eq];exact HR.o),HE.o⟩
theorem Qa (x y z:Int)(p:Ar->Bool)(A:Option Addr)(n cap:Nat)(l:List Ar)(w:World)(hF:∀a,a∈l->∀W,Ext [] w W->Calls prog 78 #[.agg #[x,y,z],.agg #[.int .i64 a.bank,.int .i64 a.lo,.int .i64 a.size]] W (fun e w'=>e=.returned (.bool (p a))/\Ext [] W w'))(h:RdA w A l)(hn:l.length=n)(hl:n<=100) :
  Calls prog 112 #[.slice A n cap,.func (.func 78) #[.agg #[x,y,z]] #[]] w fun e w'=>∃r:Int,e=.returned (.int .i64 r)/\(0<=r ↔ l.any p=true)/\Ext [] w w':=by
 have HH:=hd h;have HF:=hd hF;have HN:=hd hn;clear h hF hn;go_enter func112,ntmps112
 go_wp2_with fail
 go_loopw [8] (fun i wr=>∃k:Nat,i=.int .i64 k/\k<=n/\Hd (∀j y,j<k->l[j]? = some y->p y=false)/\Hd (Ext [] w wr)) (fun i _=>(n-intOf i).toNat)
 case atStart=>exact⟨0,rfl,Nat.zero_le _,hd fun j y hj=>absurd hj (by omega),hd er⟩
 case round=>
  obtain⟨k,rfl,hk,HNO,HE⟩:=hrel;by_cases hlt:k<n
  ·obtain⟨a,ha⟩:∃a,l[k]? = some a:=⟨_,List.getElem?_eq_getElem (by have:=HN.o;omega)⟩;obtain⟨b,o,rfl,hbl,h1,h2,h3⟩:=(HH.o.ext HE.o (by simp)).at ha;have HX:=hd ha;have HFA:=hd (HF.o a (ilm ha));obtain⟨ab,al,az⟩:=a;simp only at h1 h2 h3;clear ha;go_wp2_with fail
   refine(HFA.o _ HE.o).mono ?_
   rintro e w2 ⟨rfl,hE2⟩;have HE2:=hd (HE.o.trans hE2);clear hE2 h1 h2 h3;cases hq:p ⟨ab,al,az⟩
   ·have HQ:=hd hq;clear hq;go_wp2_with fail
    go_roundw
    case rel=>
     refine⟨k+1,by go_num,by omega,hd fun j z hj hz=>?_,HE2⟩
     rcases Nat.lt_or_ge j k with h1|h1
     ·exact HNO.o j z h1 hz
     ·have:j=k:=by omega
      subst this;rw[HX.o] at hz;cases hz
      exact HQ.o
    case measure=>simp[intOf];omega
   ·have HQ:=hd hq;clear hq;go_wp2_with fail
    go_ret
    refine⟨_,rfl,?_,HE2.o⟩
    constructor
    ·intro _;exact List.any_eq_true.2 ⟨_,ilm HX.o,HQ.o⟩
    ·intro _;omega
  ·go_wp2_with fail
   go_ret
   refine⟨_,rfl,?_,HE.o⟩
   constructor
   ·intro h0;omega
   ·intro hm;obtain⟨f,hf,hq⟩:=List.any_eq_true.1 hm;obtain⟨i,hi⟩:=List.getElem?_of_mem hf;have hil:=(ils hi).1;have:=HNO.o i f (by have:=HN.o;omega) hi;rw[hq] at this;cases this
theorem Ha (x y z:Int)(p:Ar->Bool)(A:Option Addr)(n cap:Nat)(l:List Ar)(w:World)(hF:∀a,a∈l->∀W,Ext [] w W->Calls prog 78 #[.agg #[x,y,z],.agg #[.int .i64 a.bank,.int .i64 a.lo,.int .i64 a.size]] W (fun e w'=>e=.returned (.bool (p a))/\Ext [] W w'))(h:RdA w A l)(hn:l.length=n)(hl:n<=100) :
  Calls prog 76 #[.slice A n cap,.func (.func 78) #[.agg #[x,y,z]] #[]] w fun e w'=>e=.returned (.bool (l.any p))/\Ext [] w w':=by
 go_enter func76,ntmps76
 go_wp2_with fail
 refine(Qa x y z p A n cap l w hF h hn hl).mono ?_
 rintro e w' ⟨r,rfl,hr,hE⟩;have HR:=hd hr;have HE:=hd hE;clear hr hE;go_wp2_with fail
 go_ret
 exact⟨Ay (by rw[Bool.eq_iff_iff];simp only[decide_eq_true_eq];exact HR.o),HE.o⟩
end
end Go.Proofs.YtkgmhggliifkjaaGreat
