import Derived.Test.YtfppibmloloakaaGreatDoorP01
import Derived.Lib.LazyBuf
import Derived.Deep.AppendLies
namespace Go.Proofs.YtfppibmloloakaaGreatDoor
open Go.RowKit Go.Proofs.Tryz
set_option linter.all false
section
theorem own_ext {S:List Nat}{w w':World}{base:Nat}{e:TypeId}{size n:Nat}{v:Value}{xs:List Value}(h:w.ownsRow base e size v n xs)(hE:Ext S w w')(hS:∀k,v.ownBlock=some k->k∉S):w'.ownsRow base e size v n xs:=by
 refine⟨h.1,?_⟩
 rcases h.2 with hn|⟨g,cap,cur,rfl,hb,hgg,rest⟩
 ·exact .inl hn
 ·refine .inr ⟨g,cap,cur,rfl,hb,?_,rest⟩
  rw[hE.block g (Array.getElem?_eq_some_iff.1 hgg).1 (hS g rfl)];exact hgg
theorem own_base {w:World}{base:Nat}{e:TypeId}{size n:Nat}{v:Value}{xs:List Value}(h:w.ownsRow base e size v n xs):∀k,v.ownBlock=some k->base<=k:=fun k hk=>(h.lt k hk).1
theorem own_form {w:World}{base:Nat}{e:TypeId}{size n:Nat}{v:Value}{xs:List Value}(h:w.ownsRow base e size v n xs) :
  ∃A cap,v=.slice A n cap/\n<=cap/\(0<n->∃g,A=some ⟨g,0,none⟩/\base<=g/\g<w.heap.size):=by
 rcases h.2 with⟨rfl,rfl⟩|⟨g,cap,cur,rfl,hb,hg,hnc,_⟩
 ·exact⟨none,0,rfl,Nat.le_refl _,fun h=>absurd h (by omega)⟩
 ·exact⟨_,cap,rfl,hnc,fun _=>⟨g,rfl,hb,(Array.getElem?_eq_some_iff.1 hg).1⟩⟩
theorem Blk.apart {w:World}{a b:Nat}{t u:TypeId}{C D:Array Value}(h:Blk w a t C)(k:Blk w b u D)(hne:t≠u):a≠b:=fun e=>by
 subst e;unfold Blk at h k;rw[h] at k;cases k
 exact hne rfl
theorem own_blk {w:World}{B e n:Nat}{v:Value}{l:List Value}(h:w.ownsRow B e 1 v n l){g:Nat}(hg:v.ownBlock=some g):∃C,Blk w g e C:=by
 rcases h.2 with⟨h1,_⟩|⟨g',cap,cur,h1,_,h3,_⟩
 ·rw[h1] at hg;cases hg
 ·rw[h1] at hg;cases hg;exact⟨cur,h3⟩
theorem Blk.type {w:World}{a:Nat}{t u:TypeId}{C D:Array Value}(h:Blk w a t C)(k:Blk w a u D):t=u:=by
 unfold Blk at h k;rw[h] at k;cases k
 rfl
def RdI (w:World)(A:Option Addr)(xs:List Int):Prop:=xs=[]\/∃b o,A=some ⟨b,o,none⟩/\∀i x,xs[i]? = some x->w.cell? ⟨b,o+i,none⟩=some (.int .i64 x)
theorem RdI.ext {S:List Nat}{w w':World}{A:Option Addr}{xs:List Int}(h:RdI w A xs)(hE:Ext S w w')(hS:∀a,A=some a->a.block∉S):RdI w' A xs:=by
 rcases h with h|⟨b,o,rfl,h⟩
 ·exact .inl h
 ·exact .inr ⟨b,o,rfl,fun i x hx=>hE.held (h i x hx) (show b∉S from hS ⟨b,o,none⟩ rfl)⟩
def sAny:Spec:=⟨Int,0,Value.int .i64,fun _ _=>True⟩
def sBelow (m:Int):Spec:=⟨Int,0,Value.int .i64,fun r _=>0<=r/\r<m⟩
def Stays (S:Nat->Option Spec)(R:World->World->Prop):Prop:=∀i s,S i=some s->∀x w w',R w w'->s.V x w->s.V x w'
def kinds (l:List (Nat×Spec))(i:Nat):Option Spec:=(l.find? fun x=>x.1==i).map (·.2)
theorem Stays.nil {R:World->World->Prop}:Stays (kinds []) R:=by
 intro i s hs;simp[kinds] at hs
theorem Stays.cons {j:Nat}{t:Spec}{l:List (Nat×Spec)}{R:World->World->Prop}(ht:∀y w w',R w w'->t.V y w->t.V y w')(h:Stays (kinds l) R):Stays (kinds ((j,t) :: l)) R:=by
 intro i s hs;by_cases hj:j=i
 ·subst hj;simp[kinds] at hs;subst hs;exact ht
 ·refine h i s ?_
  simp only[kinds,List.find?_cons] at hs⊢;have:(j==i)=false:=by simpa using hj
  rw[this] at hs;exact hs
theorem sAny.stays {R:World->World->Prop}:∀y w w',R w w'->sAny.V y w->sAny.V y w':=fun _ _ _ _ h=>h
theorem sBelow.stays {m:Int}{R:World->World->Prop}:∀y w w',R w w'->(sBelow m).V y w->(sBelow m).V y w':=fun _ _ _ _ h=>h
theorem kinds_mem {l:List (Nat×Spec)}{i:Nat}{s:Spec}(h:kinds l i=some s):(i,s)∈l:=by
 unfold kinds at h;cases hf:l.find? (fun x=>x.1==i) with
 | none=>rw[hf] at h;cases h
 | some x=>
  rw[hf] at h;cases h
  have h1:=List.find?_some hf;have h2:=List.mem_of_find?_eq_some hf;have h3:x.1=i:=by simpa using h1
  rw[<-h3];exact h2
def JE (w0:World)(_:Nat)(w:World):Prop:=Ext [] w0 w
theorem JE.less {w0:World}(k:Nat)(w:World)(h:JE w0 (k+1) w):JE w0 k w:=h
theorem JE.start {w0:World}{p:Nat}:JE w0 p w0.drew:=(Ext.refl _ _).drew
def sFix (v:Value):Spec:=⟨Unit,(),fun _=>v,fun _ _=>True⟩
theorem sFix.stays {v:Value}{R:World->World->Prop}:∀y w w',R w w'->(sFix v).V y w->(sFix v).V y w':=fun _ _ _ _ h=>h
theorem rel_fix {P:Program}{ops:Array Oper}{S:Nat->Option Spec}{w0:World}{k:Nat}{o:Oper}{rest:List Oper}{a:Act}{F:Nat->World->Prop}{Q:Act->World->Prop}{v:Value}
  (hS:S k=some (sFix v)) (hw:Region.wanted o (yielded ops a.tmps)=true)
  (hh:∃(f:FuncId) (args:Array Value),(∀w,(execOp a.eval o).run P w=.ok (.enter f args) w)/\∀w (_:Nat),Ext [] w0 w->Calls P f args w fun e w'=>e=.returned v/\Ext [] w w')
  (h:relAt P ops (JE w0) (Ext []) S Q (k+1) rest (a.put o.dst v) (upd F k (fun _=>True))):relAt P ops (JE w0) (Ext []) S Q k (o :: rest) a F:=by
 obtain⟨f,args,hr,hu⟩:=hh;refine relAt_call (sFix v) hS hw ⟨f,args,hr,fun w n' hJ _=>?_⟩ (fun _=>h)
 refine(hu w n' hJ).mono ?_
 rintro e w' ⟨rfl,hE⟩;exact⟨(),rfl,trivial,Ext.trans hJ hE,hE⟩
theorem rgE {id:Nat}{Q:Exit->Act->World->Prop}{a:Act}{w:World}{l:List Oper}(p:Nat)(ks:List (Nat×Spec))(h:relAt Tryz.prog l.toArray (JE w) (Ext []) (kinds ks) (fun a w=>wpList Tryz.prog l.toArray Q (l.drop p) a w) 0 (l.take p) a (fun _ _=>True))(hm:(Tryz.prog).follows .mixedOrders=true:=by kernel_rfl)(hB:relB l.toArray p=true:=by kernel_rfl)(hs:Stays (kinds ks) (Ext []):=by repeat(first|exact Stays.nil|refine Stays.cons sFix.stays ?_)):(Code.region id l.toArray true).wp Tryz.prog Q a w:=
 wp_region_rel p (JE _) (Ext []) (kinds ks) hm hB JE.less hs JE.start h
section
variable {P:Program} {ops:Array Oper} {S:Nat->Option Spec} {Q:Act->World->Prop} {k:Nat} {o:Oper} {rest:List Oper} {a:Act} {F:Nat->World->Prop} {base g n:Nat} {w0:World}
end
def Shape (w w':World):Prop:=∀(k:Nat) (cur:Array Value) (t:TypeId),w.heap[k]? = some (.cells cur t (0,0))->∃cur':Array Value,w'.heap[k]? = some (.cells cur' t (0,0))/\cur'.size=cur.size
theorem Shape.refl (w:World):Shape w w:=fun _ cur _ h=>⟨cur,h,rfl⟩
theorem Shape.trans {a b c:World}(h:Shape a b)(k:Shape b c):Shape a c:=fun i cur t hi=>by
 obtain⟨c1,h1,e1⟩:=h i cur t hi;obtain⟨c2,h2,e2⟩:=k i c1 t h1;exact⟨c2,h2,e2.trans e1⟩
theorem Shape.alloc {a w:World}(h:Shape a w)(o:Obj):Shape a (w.alloc o):=h.trans fun i cur t hi=>
 ⟨cur,(Below.heap_alloc w o i (Array.getElem?_eq_some_iff.1 hi).1).trans hi,rfl⟩
theorem Shape.drew {a w:World}(h:Shape a w):Shape a w.drew:=h
theorem Shape.of_ext {w w':World}(h:Ext [] w w'):Shape w w':=fun i cur _ hi=>⟨cur,(h.block i (Array.getElem?_eq_some_iff.1 hi).1 (by simp)).trans hi,rfl⟩
theorem Shape.setRow {w:World}(g:Nat)(cs old:Array Value)(t:TypeId)(hg:w.heap[g]? = some (.cells old t (0,0)))(hs:cs.size=old.size):Shape w (w.setRow g cs):=fun k cur u hk=>by
 by_cases h:k=g
 ·subst h;rw[hg] at hk;cases hk
  exact⟨cs,setRow_heap w k old cs t (0,0) hg,hs⟩
 ·exact⟨cur,(setRow_other w g k cs h).trans hk,rfl⟩
def JH (T:List Nat)(w0:World)(_:Nat)(w:World):Prop:=Ext T w0 w/\Shape w0 w
def RH (T:List Nat)(w w':World):Prop:=Ext T w w'/\Shape w w'
theorem JH.less {T:List Nat}{w0:World}(k:Nat)(w:World)(h:JH T w0 (k+1) w):JH T w0 k w:=h
theorem JH.start {T:List Nat}{w0:World}{p:Nat}:JH T w0 p w0.drew:=⟨(Ext.refl _ _).drew,(Shape.refl _).drew⟩
theorem rgH {id:Nat}{Q:Exit->Act->World->Prop}{a:Act}{w:World}{l:List Oper}(p:Nat)(ks:List (Nat×Spec))(hs:Stays (kinds ks) (RH []))(h:relAt Tryz.prog l.toArray (JH [] w) (RH []) (kinds ks) (fun a w=>wpList Tryz.prog l.toArray Q (l.drop p) a w) 0 (l.take p) a (fun _ _=>True))(hm:(Tryz.prog).follows .mixedOrders=true:=by kernel_rfl)(hB:relB l.toArray p=true:=by kernel_rfl):(Code.region id l.toArray true).wp Tryz.prog Q a w:=
 wp_region_rel p (JH [] _) (RH []) (kinds ks) hm hB JH.less hs JH.start h
theorem JH.step {T:List Nat}{w0 w w':World}{k n:Nat}(h:JH T w0 k w)(hR:RH T w w'):JH T w0 n w':=⟨h.1.trans hR.1,h.2.trans hR.2⟩
theorem RH.alloc {T:List Nat}(w:World)(o:Obj):RH T w (w.alloc o):=⟨(Ext.refl _ _).alloc _,(Shape.refl _).alloc _⟩
theorem get_after {o:Oper}{F:Nat->World->Prop}{w:World}(hf:∀e∈o.after,Region.binds .any e=true->F e.on w)(j:Nat)(hj:o.after.any (fun e=>Region.binds .any e&&e.on==j)=true):F j w:=by
 obtain⟨e,he,hb⟩:=Array.any_eq_true'.1 hj;simp only[Bool.and_eq_true,beq_iff_eq] at hb;have hv:=hf e he hb.1;rwa [hb.2] at hv
section
variable {P:Program} {ops:Array Oper} {S:Nat->Option Spec} {Q:Act->World->Prop} {k:Nat} {o:Oper} {rest:List Oper} {a:Act} {F:Nat->World->Prop} {T:List Nat} {w0:World}
theorem rel_new (s:Spec)(hS:S k=some s)(hw:Region.wanted o (yielded ops a.tmps)=true)
  (hr:∀w n,JH T w0 (n+1) w->(∀e∈o.after,Region.binds .any e=true->F e.on w)->∃x ob,(execOp a.eval o).run P w=.ok (.value (s.f x)) (w.alloc ob)/\s.V x (w.alloc ob))
  (h:∀x:s.α,relAt P ops (JH T w0) (RH T) S Q (k+1) rest (a.put o.dst (s.f x)) (upd F k (s.V x))):relAt P ops (JH T w0) (RH T) S Q k (o :: rest) a F:=by
 refine relAt_value s hS hw (fun w n hJ hf=>?_) h
 obtain⟨x,ob,hx,hV⟩:=hr w n hJ hf;exact⟨x,_,hx,hV,JH.step hJ (RH.alloc w ob),RH.alloc w ob⟩
theorem rel_ext (s:Spec)(hS:S k=some s)(hw:Region.wanted o (yielded ops a.tmps)=true)
  (hh:∃(f:FuncId) (args:Array Value),(∀w,(execOp a.eval o).run P w=.ok (.enter f args) w)/\
   (∀w n,JH T w0 (n+1) w->(∀e∈o.after,Region.binds .any e=true->F e.on w)->Calls P f args w fun e w'=>∃x,e=.returned (s.f x)/\s.V x w'/\Ext [] w w'))
  (h:∀x:s.α,relAt P ops (JH T w0) (RH T) S Q (k+1) rest (a.put o.dst (s.f x)) (upd F k (s.V x))):relAt P ops (JH T w0) (RH T) S Q k (o :: rest) a F:=by
 obtain⟨f,args,hr,hu⟩:=hh;refine relAt_call s hS hw ⟨f,args,hr,fun w n hJ hf=>(hu w n hJ hf).mono ?_⟩ h
 rintro e w' ⟨x,he,hV,hE⟩;have hR:RH T w w':=⟨hE.nil,Shape.of_ext hE⟩;exact⟨x,he,hV,JH.step hJ hR,hR⟩
end
section
variable {w w':World} {b n:Nat} {t:TypeId} {f:Nat->Value}
end
end
section
def sNums (n:Nat)(g:Nat):Spec:=⟨Nat,0,fun b=>.slice (some ⟨b,0,none⟩) n n,fun b w=>∃xs:List Int,xs.length=n/\Blk w b 3 (Nums xs)/\b≠g⟩
theorem sNums.stays {n g:Nat}:∀y w w',Ext [g] w w'->(sNums n g).V y w->(sNums n g).V y w':=fun _ _ _ hE ⟨xs,h1,h2,h3⟩=>⟨xs,h1,h2.ext hE (fun hm=>h3 (List.mem_singleton.1 hm)),h3⟩
section
variable {ops:Array Oper} {S:Nat->Option Spec} {Q:Act->World->Prop} {k:Nat} {o:Oper} {rest:List Oper} {a:Act} {F:Nat->World->Prop} {base g n:Nat} {w0:World}
end
end
end Go.Proofs.YtfppibmloloakaaGreatDoor
