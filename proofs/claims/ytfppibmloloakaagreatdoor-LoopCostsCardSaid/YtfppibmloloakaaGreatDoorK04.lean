import Derived.Test.YtfppibmloloakaaGreatDoorK01
import Derived.Lib.LazyBuf
import Derived.Deep.AppendLies
namespace Go.Proofs.YtfppibmloloakaaGreatDoor
open Go.RowKit Go.Proofs.Tryz
set_option linter.all false
section
theorem Ah {S:List Nat}{w w':World}{base:Nat}{e:TypeId}{size n:Nat}{v:Value}{xs:List Value}(h:w.ownsRow base e size v n xs)(hE:Ext S w w')(hS:∀k,v.ownBlock=some k->k∉S):w'.ownsRow base e size v n xs:=by
 refine⟨h.1,?_⟩
 rcases h.2 with hn|⟨g,cap,a2,rfl,hb,a1,rest⟩
 ·exact .inl hn
 ·refine .inr ⟨g,cap,a2,rfl,hb,?_,rest⟩
  rw[hE.block g (Array.getElem?_eq_some_iff.1 a1).1 (hS g rfl)];exact a1
theorem Ad {w:World}{base:Nat}{e:TypeId}{size n:Nat}{v:Value}{xs:List Value}(h:w.ownsRow base e size v n xs):∀k,v.ownBlock=some k->base<=k:=fun k hk=>(h.lt k hk).1
theorem Bg {w:World}{base:Nat}{e:TypeId}{size n:Nat}{v:Value}{xs:List Value}(h:w.ownsRow base e size v n xs) :
  ∃A cap,v=.slice A n cap/\n<=cap/\(0<n->∃g,A=some ⟨g,0,none⟩/\base<=g/\g<w.heap.size):=by
 rcases h.2 with⟨rfl,rfl⟩|⟨g,cap,a2,rfl,hb,hg,a1,_⟩
 ·exact⟨none,0,rfl,jD _,fun h=>absurd h (by omega)⟩
 ·exact⟨_,cap,rfl,a1,fun _=>⟨g,rfl,hb,(Array.getElem?_eq_some_iff.1 hg).1⟩⟩
theorem Blk.apart {w:World}{a b:Nat}{t u:TypeId}{C D:Array Value}(h:Blk w a t C)(k:Blk w b u D)(hne:t≠u):a≠b:=fun e=>by
 subst e;unfold Blk at h k;rw[h] at k;cases k
 exact hne rfl
theorem Cl {w:World}{B e n:Nat}{v:Value}{l:List Value}(h:w.ownsRow B e 1 v n l){g:Nat}(hg:v.ownBlock=some g):∃C,Blk w g e C:=by
 rcases h.2 with⟨h1,_⟩|⟨g',cap,a1,h1,_,h3,_⟩
 ·rw[h1] at hg;cases hg
 ·rw[h1] at hg;cases hg;exact⟨a1,h3⟩
theorem Blk.type {w:World}{a:Nat}{t u:TypeId}{C D:Array Value}(h:Blk w a t C)(k:Blk w a u D):t=u:=by
 unfold Blk at h k;rw[h] at k;cases k
 rfl
def RdI (w:World)(A:Option Addr)(xs:List Int):Prop:=xs=[]\/∃b o,A=some ⟨b,o,none⟩/\∀i x,xs[i]? = some x->w.cell? ⟨b,o+i,none⟩=some (.int .i64 x)
theorem RdI.ext {S:List Nat}{w w':World}{A:Option Addr}{xs:List Int}(h:RdI w A xs)(hE:Ext S w w')(hS:∀a,A=some a->a.block∉S):RdI w' A xs:=by
 rcases h with h|⟨b,o,rfl,h⟩
 ·exact .inl h
 ·exact .inr ⟨b,o,rfl,fun i x hx=>hE.held (h i x hx) (show b∉S from hS ⟨b,o,none⟩ rfl)⟩
def Dr:Ba:=⟨Int,0,Value.int .i64,fun _ _=>True⟩
def Fs (m:Int):Ba:=⟨Int,0,Value.int .i64,fun r _=>0<=r/\r<m⟩
def Am (S:Nat->Option Ba)(R:World->World->Prop):Prop:=∀i s,S i=some s->∀x w w',R w w'->s.V x w->s.V x w'
def Bi (l:List (Nat×Ba))(i:Nat):Option Ba:=(l.find? fun x=>x.1==i).map (·.2)
theorem Am.nil {R:World->World->Prop}:Am (Bi []) R:=by
 intro i s hs;simp[Bi] at hs
theorem Am.cons {j:Nat}{t:Ba}{l:List (Nat×Ba)}{R:World->World->Prop}(ht:∀y w w',R w w'->t.V y w->t.V y w')(h:Am (Bi l) R):Am (Bi ((j,t) :: l)) R:=by
 intro i s hs;by_cases hj:j=i
 ·subst hj;simp[Bi] at hs;subst hs;exact ht
 ·refine h i s ?_
  simp only[Bi,List.find?_cons] at hs⊢;have:(j==i)=false:=by simpa using hj
  rw[this] at hs;exact hs
theorem Dr.stays {R:World->World->Prop}:∀y w w',R w w'->Dr.V y w->Dr.V y w':=fun _ _ _ _ h=>h
theorem Fs.stays {m:Int}{R:World->World->Prop}:∀y w w',R w w'->(Fs m).V y w->(Fs m).V y w':=fun _ _ _ _ h=>h
theorem Fx {l:List (Nat×Ba)}{i:Nat}{s:Ba}(h:Bi l i=some s):(i,s)∈l:=by
 unfold Bi at h;cases hf:l.find? (fun x=>x.1==i) with
 | none=>rw[hf] at h;cases h
 | some x=>
  rw[hf] at h;cases h
  have h1:=List.find?_some hf;have h2:=List.mem_of_find?_eq_some hf;have h3:x.1=i:=by simpa using h1
  rw[<-h3];exact h2
def JE (w0:World)(_:Nat)(w:World):Prop:=Ext [] w0 w
theorem JE.less {w0:World}(k:Nat)(w:World)(h:JE w0 (k+1) w):JE w0 k w:=h
theorem JE.start {w0:World}{p:Nat}:JE w0 p w0.drew:=(jF _ _).drew
def Cx (v:Value):Ba:=⟨Unit,(),fun _=>v,fun _ _=>True⟩
theorem Cx.stays {v:Value}{R:World->World->Prop}:∀y w w',R w w'->(Cx v).V y w->(Cx v).V y w':=fun _ _ _ _ h=>h
theorem Gh {P:Program}{ops:Array Oper}{S:Nat->Option Ba}{w0:World}{k:Nat}{o:Oper}{rest:List Oper}{a:Act}{F:Nat->World->Prop}{Q:Act->World->Prop}{v:Value}
  (hS:S k=some (Cx v)) (hw:Region.wanted o (yielded ops a.tmps)=true)
  (hh:∃(f:FuncId) (a1:Array Value),(∀w,(execOp a.eval o).run P w=.ok (.enter f a1) w)/\∀w (_:Nat),Ext [] w0 w->Calls P f a1 w fun e w'=>e=.returned v/\Ext [] w w')
  (h:Bj P ops (JE w0) (Ext []) S Q (k+1) rest (a.put o.dst v) (upd F k (fun _=>True))):Bj P ops (JE w0) (Ext []) S Q k (o :: rest) a F:=by
 obtain⟨f,a1,hr,hu⟩:=hh;refine Fq (Cx v) hS hw ⟨f,a1,hr,fun w n' hJ _=>?_⟩ (fun _=>h)
 refine(hu w n' hJ).mono ?_
 rintro e w' ⟨rfl,hE⟩;exact⟨(),rfl,trivial,Ext.trans hJ hE,hE⟩
theorem rgE {id:Nat}{Q:Exit->Act->World->Prop}{a:Act}{w:World}{l:List Oper}(p:Nat)(ks:List (Nat×Ba))(h:Bj prog l.toArray (JE w) (Ext []) (Bi ks) (fun a w=>wpList prog l.toArray Q (l.drop p) a w) 0 (l.take p) a (fun _ _=>True))(hm:(prog).follows .mixedOrders=true:=by kernel_rfl)(hB:Ir l.toArray p=true:=by kernel_rfl)(hs:Am (Bi ks) (Ext []):=by repeat(first|exact Am.nil|refine Am.cons Cx.stays ?_)):(Code.region id l.toArray true).wp prog Q a w:=
 Cu p (JE _) (Ext []) (Bi ks) hm hB JE.less hs JE.start h
section
variable {P:Program} {ops:Array Oper} {S:Nat->Option Ba} {Q:Act->World->Prop} {k:Nat} {o:Oper} {rest:List Oper} {a:Act} {F:Nat->World->Prop} {base g n:Nat} {w0:World}
end
def Dw (w w':World):Prop:=∀(k:Nat) (cur:Array Value) (t:TypeId),w.heap[k]? = some (.cells cur t (0,0))->∃cur':Array Value,w'.heap[k]? = some (.cells cur' t (0,0))/\cur'.size=cur.size
theorem Dw.refl (w:World):Dw w w:=fun _ cur _ h=>⟨cur,h,rfl⟩
theorem Dw.trans {a b c:World}(h:Dw a b)(k:Dw b c):Dw a c:=fun i cur t hi=>by
 obtain⟨c1,h1,e1⟩:=h i cur t hi;obtain⟨c2,h2,e2⟩:=k i c1 t h1;exact⟨c2,h2,e2.trans e1⟩
theorem Dw.alloc {a w:World}(h:Dw a w)(o:Obj):Dw a (w.alloc o):=h.trans fun i cur t hi=>
 ⟨cur,(Below.heap_alloc w o i (Array.getElem?_eq_some_iff.1 hi).1).trans hi,rfl⟩
theorem Dw.drew {a w:World}(h:Dw a w):Dw a w.drew:=h
theorem Dw.of_ext {w w':World}(h:Ext [] w w'):Dw w w':=fun i cur _ hi=>⟨cur,(h.block i (Array.getElem?_eq_some_iff.1 hi).1 (by simp)).trans hi,rfl⟩
theorem Dw.setRow {w:World}(g:Nat)(cs old:Array Value)(t:TypeId)(hg:w.heap[g]? = some (.cells old t (0,0)))(hs:cs.size=old.size):Dw w (w.setRow g cs):=fun k cur u hk=>by
 by_cases h:k=g
 ·subst h;rw[hg] at hk;cases hk
  exact⟨cs,setRow_heap w k old cs t (0,0) hg,hs⟩
 ·exact⟨cur,(setRow_other w g k cs h).trans hk,rfl⟩
def JH (T:List Nat)(w0:World)(_:Nat)(w:World):Prop:=Ext T w0 w/\Dw w0 w
def RH (T:List Nat)(w w':World):Prop:=Ext T w w'/\Dw w w'
theorem JH.less {T:List Nat}{w0:World}(k:Nat)(w:World)(h:JH T w0 (k+1) w):JH T w0 k w:=h
theorem JH.start {T:List Nat}{w0:World}{p:Nat}:JH T w0 p w0.drew:=⟨(jF _ _).drew,(Dw.refl _).drew⟩
theorem rgH {id:Nat}{Q:Exit->Act->World->Prop}{a:Act}{w:World}{l:List Oper}(p:Nat)(ks:List (Nat×Ba))(hs:Am (Bi ks) (RH []))(h:Bj prog l.toArray (JH [] w) (RH []) (Bi ks) (fun a w=>wpList prog l.toArray Q (l.drop p) a w) 0 (l.take p) a (fun _ _=>True))(hm:(prog).follows .mixedOrders=true:=by kernel_rfl)(hB:Ir l.toArray p=true:=by kernel_rfl):(Code.region id l.toArray true).wp prog Q a w:=
 Cu p (JH [] _) (RH []) (Bi ks) hm hB JH.less hs JH.start h
theorem JH.step {T:List Nat}{w0 w w':World}{k n:Nat}(h:JH T w0 k w)(hR:RH T w w'):JH T w0 n w':=⟨h.1.trans hR.1,h.2.trans hR.2⟩
theorem RH.alloc {T:List Nat}(w:World)(o:Obj):RH T w (w.alloc o):=⟨(jF _ _).alloc _,(Dw.refl _).alloc _⟩
theorem Bd {o:Oper}{F:Nat->World->Prop}{w:World}(hf:∀e∈o.after,Region.binds .any e=true->F e.on w)(j:Nat)(hj:o.after.any (fun e=>Region.binds .any e&&e.on==j)=true):F j w:=by
 obtain⟨e,he,hb⟩:=Array.any_eq_true'.1 hj;simp only[Bool.and_eq_true,beq_iff_eq] at hb;have hv:=hf e he hb.1;rwa [hb.2] at hv
section
variable {P:Program} {ops:Array Oper} {S:Nat->Option Ba} {Q:Act->World->Prop} {k:Nat} {o:Oper} {rest:List Oper} {a:Act} {F:Nat->World->Prop} {T:List Nat} {w0:World}
theorem Gi (s:Ba)(hS:S k=some s)(hw:Region.wanted o (yielded ops a.tmps)=true)
  (hr:∀w n,JH T w0 (n+1) w->(∀e∈o.after,Region.binds .any e=true->F e.on w)->∃x ob,(execOp a.eval o).run P w=.ok (.value (s.f x)) (w.alloc ob)/\s.V x (w.alloc ob))
  (h:∀x:s.α,Bj P ops (JH T w0) (RH T) S Q (k+1) rest (a.put o.dst (s.f x)) (upd F k (s.V x))):Bj P ops (JH T w0) (RH T) S Q k (o :: rest) a F:=by
 refine Hl s hS hw (fun w n hJ hf=>?_) h
 obtain⟨x,ob,hx,hV⟩:=hr w n hJ hf;exact⟨x,_,hx,hV,JH.step hJ (RH.alloc w ob),RH.alloc w ob⟩
theorem Acg (s:Ba)(hS:S k=some s)(hw:Region.wanted o (yielded ops a.tmps)=true)
  (hh:∃(f:FuncId) (a1:Array Value),(∀w,(execOp a.eval o).run P w=.ok (.enter f a1) w)/\
   (∀w n,JH T w0 (n+1) w->(∀e∈o.after,Region.binds .any e=true->F e.on w)->Calls P f a1 w fun e w'=>∃x,e=.returned (s.f x)/\s.V x w'/\Ext [] w w'))
  (h:∀x:s.α,Bj P ops (JH T w0) (RH T) S Q (k+1) rest (a.put o.dst (s.f x)) (upd F k (s.V x))):Bj P ops (JH T w0) (RH T) S Q k (o :: rest) a F:=by
 obtain⟨f,a1,hr,hu⟩:=hh;refine Fq s hS hw ⟨f,a1,hr,fun w n hJ hf=>(hu w n hJ hf).mono ?_⟩ h
 rintro e w' ⟨x,he,hV,hE⟩;have hR:RH T w w':=⟨hE.nil,Dw.of_ext hE⟩;exact⟨x,he,hV,JH.step hJ hR,hR⟩
end
section
variable {w w':World} {b n:Nat} {t:TypeId} {f:Nat->Value}
end
end
section
def Ds (n:Nat)(g:Nat):Ba:=⟨Nat,0,fun b=>.slice (some ⟨b,0,none⟩) n n,fun b w=>∃xs:List Int,xs.length=n/\Blk w b 3 (Cj xs)/\b≠g⟩
theorem Ds.stays {n g:Nat}:∀y w w',Ext [g] w w'->(Ds n g).V y w->(Ds n g).V y w':=fun _ _ _ hE ⟨xs,h1,h2,h3⟩=>⟨xs,h1,h2.ext hE (fun hm=>h3 (jA.1 hm)),h3⟩
section
variable {ops:Array Oper} {S:Nat->Option Ba} {Q:Act->World->Prop} {k:Nat} {o:Oper} {rest:List Oper} {a:Act} {F:Nat->World->Prop} {base g n:Nat} {w0:World}
end
end
end Go.Proofs.YtfppibmloloakaaGreatDoor
