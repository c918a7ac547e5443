import Derived.Test.YtfjdmoppfbddpaaGreatDoorP05
import Derived.Lib.LazyBuf
import Derived.Deep.AppendLies
namespace Go.Proofs.YtfjdmoppfbddpaaGreatDoor
open Go.RowKit Go.Proofs.Tryz
set_option linter.all false
section
theorem Blk.grown {w w':World}{g:Nat}{t:TypeId}{cs:Array Value}{row:Option Nat}(h:Blk w g t cs)(hb:w.grownBy w' row)(hg:row≠some g):Blk w' g t cs:=(hb.block g h.lt (fun e=>hg e.symm)).trans h
theorem own_ext {S:List Nat}{w w':World}{base:Nat}{e:TypeId}{size n:Nat}{v:Value}{xs:List Value}(h:w.ownsRow base e size v n xs)(hE:Ext S w w')(hS:∀k,v.ownBlock=some k->k∉S):w'.ownsRow base e size v n xs:=by
 refine⟨h.1,?_⟩
 rcases h.2 with hn|⟨g,cap,cur,rfl,hb,hgg,rest⟩
 ·exact .inl hn
 ·refine .inr ⟨g,cap,cur,rfl,hb,?_,rest⟩
  rw[hE.block g (Array.getElem?_eq_some_iff.1 hgg).1 (hS g rfl)];exact hgg
theorem own_base {w:World}{base:Nat}{e:TypeId}{size n:Nat}{v:Value}{xs:List Value}(h:w.ownsRow base e size v n xs):∀k,v.ownBlock=some k->base<=k:=fun k hk=>(h.lt k hk).1
theorem own_form {w:World}{base:Nat}{e:TypeId}{size n:Nat}{v:Value}{xs:List Value}(h:w.ownsRow base e size v n xs) :
  ∃A cap,v=.slice A n cap/\n<=cap/\(0<n->∃g,A=some ⟨g,0,none⟩/\base<=g/\g<w.heap.size):=by
 rcases h.2 with⟨rfl,rfl⟩|⟨g,cap,cur,rfl,hb,hg,hnc,_⟩
 ·exact⟨none,0,rfl,Nat.le_refl _,fun h=>absurd h (by omega)⟩
 ·exact⟨_,cap,rfl,hnc,fun _=>⟨g,rfl,hb,(Array.getElem?_eq_some_iff.1 hg).1⟩⟩
theorem Blk.apart {w:World}{a b:Nat}{t u:TypeId}{C D:Array Value}(h:Blk w a t C)(k:Blk w b u D)(hne:t≠u):a≠b:=fun e=>by
 subst e;unfold Blk at h k;rw[h] at k;cases k
 exact hne rfl
theorem own_blk {w:World}{B e n:Nat}{v:Value}{l:List Value}(h:w.ownsRow B e 1 v n l){g:Nat}(hg:v.ownBlock=some g):∃C,Blk w g e C:=by
 rcases h.2 with⟨h1,_⟩|⟨g',cap,cur,h1,_,h3,_⟩
 ·rw[h1] at hg;cases hg
 ·rw[h1] at hg;cases hg;exact⟨cur,h3⟩
theorem Blk.type {w:World}{a:Nat}{t u:TypeId}{C D:Array Value}(h:Blk w a t C)(k:Blk w a u D):t=u:=by
 unfold Blk at h k;rw[h] at k;cases k
 rfl
def RdI (w:World)(A:Option Addr)(xs:List Int):Prop:=xs=[]\/∃b o,A=some ⟨b,o,none⟩/\∀i x,xs[i]? = some x->w.cell? ⟨b,o+i,none⟩=some (.int .i64 x)
theorem RdI.ext {S:List Nat}{w w':World}{A:Option Addr}{xs:List Int}(h:RdI w A xs)(hE:Ext S w w')(hS:∀a,A=some a->a.block∉S):RdI w' A xs:=by
 rcases h with h|⟨b,o,rfl,h⟩
 ·exact .inl h
 ·exact .inr ⟨b,o,rfl,fun i x hx=>hE.held (h i x hx) (show b∉S from hS ⟨b,o,none⟩ rfl)⟩
def JS (base g n:Nat)(w0:World)(k:Nat)(w:World):Prop:=Ext [g] w0 w/\Stm w base g (n+3*k)
theorem JS.less {base g n:Nat}{w0:World}(k:Nat)(w:World)(h:JS base g n w0 (k+1) w):JS base g n w0 k w:=⟨h.1,h.2.less (by omega)⟩
theorem JS.start {base g n:Nat}{w0:World}{p:Nat}(h:Stm w0 base g (n+3*p)):JS base g n w0 p w0.drew:=⟨(Ext.refl _ _).drew,h⟩
theorem JS.step {base g n:Nat}{w0 w w':World}{k m:Nat}(h:JS base g n w0 (k+1) w)(hE:Ext [g] w w')(hS:Stm w' base g m)(hm:n+3*k<=m):JS base g n w0 k w':=⟨h.1.trans hE,hS.less hm⟩
theorem JS.stm {base g n:Nat}{w0 w:World}{k:Nat}(h:JS base g n w0 (k+1) w):Stm w base g (n+3*k+3):=h.2.less (by omega)
def sAny:Spec:=⟨Int,0,Value.int .i64,fun _ _=>True⟩
def sBool:Spec:=⟨Bool,false,Value.bool,fun _ _=>True⟩
def sBelow (m:Int):Spec:=⟨Int,0,Value.int .i64,fun r _=>0<=r/\r<m⟩
def Stays (S:Nat->Option Spec)(R:World->World->Prop):Prop:=∀i s,S i=some s->∀x w w',R w w'->s.V x w->s.V x w'
def kinds (l:List (Nat×Spec))(i:Nat):Option Spec:=(l.find? fun x=>x.1==i).map (·.2)
theorem Stays.nil {R:World->World->Prop}:Stays (kinds []) R:=by
 intro i s hs;simp[kinds] at hs
theorem Stays.cons {j:Nat}{t:Spec}{l:List (Nat×Spec)}{R:World->World->Prop}(ht:∀y w w',R w w'->t.V y w->t.V y w')(h:Stays (kinds l) R):Stays (kinds ((j,t) :: l)) R:=by
 intro i s hs;by_cases hj:j=i
 ·subst hj;simp[kinds] at hs;subst hs;exact ht
 ·refine h i s ?_
  simp only[kinds,List.find?_cons] at hs⊢;have:(j==i)=false:=by simpa using hj
  rw[this] at hs;exact hs
theorem sAny.stays {R:World->World->Prop}:∀y w w',R w w'->sAny.V y w->sAny.V y w':=fun _ _ _ _ h=>h
theorem sBool.stays {R:World->World->Prop}:∀y w w',R w w'->sBool.V y w->sBool.V y w':=fun _ _ _ _ h=>h
theorem sBelow.stays {m:Int}{R:World->World->Prop}:∀y w w',R w w'->(sBelow m).V y w->(sBelow m).V y w':=fun _ _ _ _ h=>h
theorem Drawn.less {base g n m:Nat}{w:World}{R R':Int->Prop}(hn:m<=n)(hR:∀r,R r->R' r):∀e w',Drawn base g n w R e w'->Drawn base g m w R' e w':=
 fun _ _ ⟨r,he,h1,h2,h3⟩=>⟨r,he,hR r h1,h2,h3.less hn⟩
theorem kinds_mem {l:List (Nat×Spec)}{i:Nat}{s:Spec}(h:kinds l i=some s):(i,s)∈l:=by
 unfold kinds at h;cases hf:l.find? (fun x=>x.1==i) with
 | none=>rw[hf] at h;cases h
 | some x=>
  rw[hf] at h;cases h
  have h1:=List.find?_some hf;have h2:=List.mem_of_find?_eq_some hf;have h3:x.1=i:=by simpa using h1
  rw[<-h3];exact h2
def JE (w0:World)(_:Nat)(w:World):Prop:=Ext [] w0 w
theorem JE.less {w0:World}(k:Nat)(w:World)(h:JE w0 (k+1) w):JE w0 k w:=h
theorem JE.start {w0:World}{p:Nat}:JE w0 p w0.drew:=(Ext.refl _ _).drew
def sFix (v:Value):Spec:=⟨Unit,(),fun _=>v,fun _ _=>True⟩
theorem sFix.stays {v:Value}{R:World->World->Prop}:∀y w w',R w w'->(sFix v).V y w->(sFix v).V y w':=fun _ _ _ _ h=>h
theorem rel_fix {P:Program}{ops:Array Oper}{S:Nat->Option Spec}{w0:World}{k:Nat}{o:Oper}{rest:List Oper}{a:Act}{F:Nat->World->Prop}{Q:Act->World->Prop}{v:Value}
  (hS:S k=some (sFix v)) (hw:Region.wanted o (yielded ops a.tmps)=true)
  (hh:∃(f:FuncId) (args:Array Value),(∀w,(execOp a.eval o).run P w=.ok (.enter f args) w)/\∀w (_:Nat),Ext [] w0 w->Calls P f args w fun e w'=>e=.returned v/\Ext [] w w')
  (h:relAt P ops (JE w0) (Ext []) S Q (k+1) rest (a.put o.dst v) (upd F k (fun _=>True))):relAt P ops (JE w0) (Ext []) S Q k (o :: rest) a F:=by
 obtain⟨f,args,hr,hu⟩:=hh;refine relAt_call (sFix v) hS hw ⟨f,args,hr,fun w n' hJ _=>?_⟩ (fun _=>h)
 refine(hu w n' hJ).mono ?_
 rintro e w' ⟨rfl,hE⟩;exact⟨(),rfl,trivial,Ext.trans hJ hE,hE⟩
theorem rgE {id:Nat}{Q:Exit->Act->World->Prop}{a:Act}{w:World}{l:List Oper}(p:Nat)(ks:List (Nat×Spec))(h:relAt Tryz.prog l.toArray (JE w) (Ext []) (kinds ks) (fun a w=>wpList Tryz.prog l.toArray Q (l.drop p) a w) 0 (l.take p) a (fun _ _=>True))(hm:(Tryz.prog).follows .mixedOrders=true:=by kernel_rfl)(hB:relB l.toArray p=true:=by kernel_rfl)(hs:Stays (kinds ks) (Ext []):=by repeat(first|exact Stays.nil|refine Stays.cons sFix.stays ?_)):(Code.region id l.toArray true).wp Tryz.prog Q a w:=
 wp_region_rel p (JE _) (Ext []) (kinds ks) hm hB JE.less hs JE.start h
section
variable {P:Program} {ops:Array Oper} {S:Nat->Option Spec} {Q:Act->World->Prop} {k:Nat} {o:Oper} {rest:List Oper} {a:Act} {F:Nat->World->Prop} {base g n:Nat} {w0:World}
theorem rel_draw (hS:S k=some sAny)(hw:Region.wanted o (yielded ops a.tmps)=true)
  (hh:∃(f:FuncId) (args:Array Value),(∀w,(execOp a.eval o).run P w=.ok (.enter f args) w)/\
   ∀w n',Stm w base g (n+3*n'+3)->Ext [g] w0 w->∃m R',n+3*n'<=m/\Calls P f args w (Drawn base g m w R'))
  (h:∀x:Int,relAt P ops (JS base g n w0) (Ext [g]) S Q (k+1) rest (a.put o.dst (.int .i64 x)) (upd F k (fun _=>True))):relAt P ops (JS base g n w0) (Ext [g]) S Q k (o :: rest) a F:=by
 obtain⟨f,args,hr,hu⟩:=hh;refine relAt_call sAny hS hw ⟨f,args,hr,fun w n' hJ _=>?_⟩ h
 obtain⟨m,R',hm,hc⟩:=hu w n' hJ.stm hJ.1;refine hc.mono ?_
 rintro e w' ⟨r,rfl,_,hE,hS'⟩;exact⟨r,rfl,trivial,hJ.step hE hS' hm,hE⟩
theorem rel_flip (hS:S k=some sBool)(hw:Region.wanted o (yielded ops a.tmps)=true)
  (hh:∃(f:FuncId) (args:Array Value),(∀w,(execOp a.eval o).run P w=.ok (.enter f args) w)/\
   ∀w n',Stm w base g (n+3*n'+3)->Ext [g] w0 w->∃m,n+3*n'<=m/\Calls P f args w (Flipped base g m w))
  (h:∀x:Bool,relAt P ops (JS base g n w0) (Ext [g]) S Q (k+1) rest (a.put o.dst (.bool x)) (upd F k (fun _=>True))):relAt P ops (JS base g n w0) (Ext [g]) S Q k (o :: rest) a F:=by
 obtain⟨f,args,hr,hu⟩:=hh;refine relAt_call sBool hS hw ⟨f,args,hr,fun w n' hJ _=>?_⟩ h
 obtain⟨m,hm,hc⟩:=hu w n' hJ.stm hJ.1;refine hc.mono ?_
 rintro e w' ⟨r,rfl,hE,hS'⟩;exact⟨r,rfl,trivial,hJ.step hE hS' hm,hE⟩
theorem rel_below (m:Int)(hm:1<=m)(hS:S k=some (sBelow m))(hw:Region.wanted o (yielded ops a.tmps)=true)
  (hh:∃(f:FuncId) (args:Array Value),(∀w,(execOp a.eval o).run P w=.ok (.enter f args) w)/\
   ∀w n',Stm w base g (n+3*n'+3)->Ext [g] w0 w->∃q,n+3*n'<=q/\Calls P f args w (Drawn base g q w fun r=>0<=r/\(1<=m->r<m)))
  (h:∀x:Int,relAt P ops (JS base g n w0) (Ext [g]) S Q (k+1) rest (a.put o.dst (.int .i64 x)) (upd F k ((sBelow m).V x))):relAt P ops (JS base g n w0) (Ext [g]) S Q k (o :: rest) a F:=by
 obtain⟨f,args,hr,hu⟩:=hh;refine relAt_call (sBelow m) hS hw ⟨f,args,hr,fun w n' hJ _=>?_⟩ h
 obtain⟨q,hq,hc⟩:=hu w n' hJ.stm hJ.1;refine hc.mono ?_
 rintro e w' ⟨r,rfl,hr,hE,hS'⟩;exact⟨r,rfl,⟨hr.1,hr.2 hm⟩,hJ.step hE hS' hq,hE⟩
end
def Shape (w w':World):Prop:=∀(k:Nat) (cur:Array Value) (t:TypeId),w.heap[k]? = some (.cells cur t (0,0))->∃cur':Array Value,w'.heap[k]? = some (.cells cur' t (0,0))/\cur'.size=cur.size
theorem Shape.refl (w:World):Shape w w:=fun _ cur _ h=>⟨cur,h,rfl⟩
theorem Shape.trans {a b c:World}(h:Shape a b)(k:Shape b c):Shape a c:=fun i cur t hi=>by
 obtain⟨c1,h1,e1⟩:=h i cur t hi;obtain⟨c2,h2,e2⟩:=k i c1 t h1;exact⟨c2,h2,e2.trans e1⟩
theorem Shape.alloc {a w:World}(h:Shape a w)(o:Obj):Shape a (w.alloc o):=h.trans fun i cur t hi=>
 ⟨cur,(Below.heap_alloc w o i (Array.getElem?_eq_some_iff.1 hi).1).trans hi,rfl⟩
theorem Shape.drew {a w:World}(h:Shape a w):Shape a w.drew:=h
theorem Shape.of_ext {w w':World}(h:Ext [] w w'):Shape w w':=fun i cur _ hi=>⟨cur,(h.block i (Array.getElem?_eq_some_iff.1 hi).1 (by simp)).trans hi,rfl⟩
theorem Shape.setRow {w:World}(g:Nat)(cs old:Array Value)(t:TypeId)(hg:w.heap[g]? = some (.cells old t (0,0)))(hs:cs.size=old.size):Shape w (w.setRow g cs):=fun k cur u hk=>by
 by_cases h:k=g
 ·subst h;rw[hg] at hk;cases hk
  exact⟨cs,setRow_heap w k old cs t (0,0) hg,hs⟩
 ·exact⟨cur,(setRow_other w g k cs h).trans hk,rfl⟩
def Row (w:World)(base:Nat)(e:TypeId)(v:Value)(n:Nat):Prop:=∃xs,w.ownsRow base e 1 v n xs
theorem Row.shape {w w':World}{base:Nat}{e:TypeId}{v:Value}{n:Nat}(h:Row w base e v n)(hs:Shape w w'):Row w' base e v n:=by
 obtain⟨xs,hl,hx⟩:=h;rcases hx with⟨rfl,rfl⟩|⟨g,cap,cur,rfl,hb,hg,h1,h2,h3,h4⟩
 ·exact⟨[],rfl,.inl ⟨rfl,rfl⟩⟩
 ·obtain⟨cur',hg',hz⟩:=hs g cur e hg;refine⟨cur'.toList.take (n*1),?_,.inr ⟨g,cap,cur',rfl,hb,hg',h1,h2,hz.trans h3,rfl⟩⟩
  rw[List.length_take,Array.length_toList,hz,h3];exact Nat.min_eq_left (Nat.mul_le_mul_right _ h1)
theorem Row.nil (w:World)(base:Nat)(e:TypeId):Row w base e (.slice none 0 0) 0:=⟨[],rfl,.inl ⟨rfl,rfl⟩⟩
theorem run_append_shape (w:World)(t ty:TypeId)(base:Nat)(e:TypeId)(i:TypeInfo)(z:Value)(bytes:Nat)(ht:Tryz.prog.underlying t=some (.slice e))(hi:Tryz.prog.info? e=some i)(hz:i.zero=some z)
  (hsize:i.size=1) (hby:i.bytes=bytes) (hzs:z.cells.size=1)
  (v:Value) (n:Nat) (hown:Row w base e v n)
  (ad:Addr) (c:Nat) (x:Value) (hx:w.cell? ad=some x) (h1:x.oneCell'=true) (had:ad.add 0=ad)
  (h63:n+1<=maxLen) (hbytes:(n+1)*bytes<=140737488355328) (hbase:base<=w.heap.size) :
  ∃g cap w',(Builtin.append_ #[t,t] ty #[v,.slice (some ad) 1 c]).run Tryz.prog w=.ok (.slice (some ⟨g,0,none⟩) (n+1) cap) w'/\
   Row w' base e (.slice (some ⟨g,0,none⟩) (n+1) cap) (n+1)/\w.grownBy w' v.ownBlock/\Shape w w':=by
 obtain⟨xs,hown⟩:=hown
 have hnews:∀j u,[x][j]? = some u->w.cell? (ad.add j)=some u:=fun j u hj=>by
  match j,hj with
  | 0,hj=>cases hj;rw[had];exact hx
 have hone:∀u∈[x],u.oneCell'=true:=fun u hu=>by rw[List.mem_singleton.1 hu];exact h1
 obtain⟨g,cap,w',hr,ho,hg,_,_⟩:=run_append_lies (P:=Tryz.prog) w t ty base e i z 1 bytes ht hi hz hsize hby hzs (by decide) v n xs hown ad 1 c [x] rfl hnews hone (by decide) h63 hbytes hbase _ rfl;refine⟨g,cap,w',hr,⟨_,ho⟩,hg,?_⟩
 have hl:[x].length=1*i.size:=by rw[hsize];rfl
 rcases hown.2 with⟨rfl,rfl⟩|⟨b,cp,cur,rfl,hb,hgb,hnc,hcm,hcs,htk⟩
 ·have hr2:=run_append_nil (P:=Tryz.prog) w t ty e i z ht hi hz ad 1 c [x] hl hnews (by omega) (by omega) (by rw[hby];omega);have h3:=hr.symm.trans hr2;injection h3 with _ e2;rw[e2];exact((Shape.refl w).drew).alloc _
 ·by_cases hroom:n+1<=cp
  ·have hfit:n*i.size+[x].length<=cur.size:=by rw[hsize,hcs];simp;omega
   have hr2:=run_append_room (P:=Tryz.prog) w t ty e i ht hi b n cp cur hgb ad 1 c [x] hl hnews hone hroom hfit;have h3:=hr.symm.trans hr2;injection h3 with _ e2;rw[e2];refine Shape.setRow b _ cur e hgb ?_
   simp only[List.size_toArray,List.length_append,List.length_take,List.length_drop,Array.length_toList];omega
  ·have holds:∀j u,xs[j]? = some u->w.cell? ((⟨b,0,none⟩:Addr).add j)=some u:=hown.cells (g:=b) rfl;have hr2:=run_append_grow (P:=Tryz.prog) w t ty e i z ht hi hz ⟨b,0,none⟩ n cp xs (by rw[hsize];exact hown.1) holds ad 1 c [x] hl hnews (by omega) (by simp only[maxLen] at h63;omega) (growslice_fits (by omega) (by rw[hby];exact hbytes));have h3:=hr.symm.trans hr2;injection h3 with _ e2;rw[e2];exact((Shape.refl w).drew).alloc _
def JH (T:List Nat)(w0:World)(_:Nat)(w:World):Prop:=Ext T w0 w/\Shape w0 w
def RH (T:List Nat)(w w':World):Prop:=Ext T w w'/\Shape w w'
theorem JH.less {T:List Nat}{w0:World}(k:Nat)(w:World)(h:JH T w0 (k+1) w):JH T w0 k w:=h
theorem JH.start {T:List Nat}{w0:World}{p:Nat}:JH T w0 p w0.drew:=⟨(Ext.refl _ _).drew,(Shape.refl _).drew⟩
theorem rgH {id:Nat}{Q:Exit->Act->World->Prop}{a:Act}{w:World}{l:List Oper}(p:Nat)(ks:List (Nat×Spec))(hs:Stays (kinds ks) (RH []))(h:relAt Tryz.prog l.toArray (JH [] w) (RH []) (kinds ks) (fun a w=>wpList Tryz.prog l.toArray Q (l.drop p) a w) 0 (l.take p) a (fun _ _=>True))(hm:(Tryz.prog).follows .mixedOrders=true:=by kernel_rfl)(hB:relB l.toArray p=true:=by kernel_rfl):(Code.region id l.toArray true).wp Tryz.prog Q a w:=
 wp_region_rel p (JH [] _) (RH []) (kinds ks) hm hB JH.less hs JH.start h
theorem JH.step {T:List Nat}{w0 w w':World}{k n:Nat}(h:JH T w0 k w)(hR:RH T w w'):JH T w0 n w':=⟨h.1.trans hR.1,h.2.trans hR.2⟩
theorem RH.alloc {T:List Nat}(w:World)(o:Obj):RH T w (w.alloc o):=⟨(Ext.refl _ _).alloc _,(Shape.refl _).alloc _⟩
theorem get_after {o:Oper}{F:Nat->World->Prop}{w:World}(hf:∀e∈o.after,Region.binds .any e=true->F e.on w)(j:Nat)(hj:o.after.any (fun e=>Region.binds .any e&&e.on==j)=true):F j w:=by
 obtain⟨e,he,hb⟩:=Array.any_eq_true'.1 hj;simp only[Bool.and_eq_true,beq_iff_eq] at hb;have hv:=hf e he hb.1;rwa [hb.2] at hv
section
variable {P:Program} {ops:Array Oper} {S:Nat->Option Spec} {Q:Act->World->Prop} {k:Nat} {o:Oper} {rest:List Oper} {a:Act} {F:Nat->World->Prop} {T:List Nat} {w0:World}
theorem rel_new (s:Spec)(hS:S k=some s)(hw:Region.wanted o (yielded ops a.tmps)=true)
  (hr:∀w n,JH T w0 (n+1) w->(∀e∈o.after,Region.binds .any e=true->F e.on w)->∃x ob,(execOp a.eval o).run P w=.ok (.value (s.f x)) (w.alloc ob)/\s.V x (w.alloc ob))
  (h:∀x:s.α,relAt P ops (JH T w0) (RH T) S Q (k+1) rest (a.put o.dst (s.f x)) (upd F k (s.V x))):relAt P ops (JH T w0) (RH T) S Q k (o :: rest) a F:=by
 refine relAt_value s hS hw (fun w n hJ hf=>?_) h
 obtain⟨x,ob,hx,hV⟩:=hr w n hJ hf;exact⟨x,_,hx,hV,JH.step hJ (RH.alloc w ob),RH.alloc w ob⟩
theorem rel_say (s:Spec)(x:s.α)(hS:S k=some s)(hw:Region.wanted o (yielded ops a.tmps)=true)
  (hr:∀w n,JH T w0 (n+1) w->(execOp a.eval o).run P w=.ok (.value (s.f x)) w)
  (hV:∀w n,JH T w0 (n+1) w->(∀e∈o.after,Region.binds .any e=true->F e.on w)->s.V x w)
  (h:∀x:s.α,relAt P ops (JH T w0) (RH T) S Q (k+1) rest (a.put o.dst (s.f x)) (upd F k (s.V x))):relAt P ops (JH T w0) (RH T) S Q k (o :: rest) a F:=
 relAt_value s hS hw (fun w n hJ hf=>⟨x,w,hr w n hJ,hV w n hJ hf,hJ,Ext.refl _ _,Shape.refl _⟩) h
theorem rel_ext (s:Spec)(hS:S k=some s)(hw:Region.wanted o (yielded ops a.tmps)=true)
  (hh:∃(f:FuncId) (args:Array Value),(∀w,(execOp a.eval o).run P w=.ok (.enter f args) w)/\
   (∀w n,JH T w0 (n+1) w->(∀e∈o.after,Region.binds .any e=true->F e.on w)->Calls P f args w fun e w'=>∃x,e=.returned (s.f x)/\s.V x w'/\Ext [] w w'))
  (h:∀x:s.α,relAt P ops (JH T w0) (RH T) S Q (k+1) rest (a.put o.dst (s.f x)) (upd F k (s.V x))):relAt P ops (JH T w0) (RH T) S Q k (o :: rest) a F:=by
 obtain⟨f,args,hr,hu⟩:=hh;refine relAt_call s hS hw ⟨f,args,hr,fun w n hJ hf=>(hu w n hJ hf).mono ?_⟩ h
 rintro e w' ⟨x,he,hV,hE⟩;have hR:RH T w w':=⟨hE.nil,Shape.of_ext hE⟩;exact⟨x,he,hV,JH.step hJ hR,hR⟩
theorem rel_app (j b:Nat)(t base:Nat)(e:TypeId)(i:TypeInfo)(z:Value)(bytes:Nat)(v:Value)(n c:Nat)(s x:Operand)(sp:Spec)(V9:Nat->World->Prop)
  (hsp:sp=⟨Nat×Nat,(0,0),fun u=>.slice (some ⟨u.1,0,none⟩) (n+1) u.2,fun u w=>Row w base e (.slice (some ⟨u.1,0,none⟩) (n+1) u.2) (n+1)⟩)
  (hS:S k=some sp) (hgd:o.guard=none) (ho:o.op=.call {callee:=.builtin .append,args:=#[s,x],argTypes:=#[t,t] })
  (ht:Tryz.prog.underlying t=some (.slice e)) (hi:Tryz.prog.info? e=some i) (hz:i.zero=some z) (hsize:i.size=1) (hby:i.bytes=bytes) (hzs:z.cells.size=1)
  (hs:a.eval s=v) (hx:a.eval x=.slice (some ⟨b,0,none⟩) 1 c)
  (hv:∀w m,JH T w0 (m+1) w->Row w base e v n) (hT:∀g,v.ownBlock=some g->g∈T)
  (hj:o.after.any (fun e=>Region.binds .any e&&e.on==j)=true) (hF:F j=V9 b) (hV9:∀w,V9 b w->∃u,w.cell? ⟨b,0,none⟩=some u/\u.oneCell'=true)
  (h63:n+1<=maxLen) (hbytes:(n+1)*bytes<=140737488355328) (hbase:base<=w0.heap.size)
  (h:∀u:Nat×Nat,relAt Tryz.prog ops (JH T w0) (RH T) S Q (k+1) rest (a.put o.dst (.slice (some ⟨u.1,0,none⟩) (n+1) u.2)) (upd F k fun w=>Row w base e (.slice (some ⟨u.1,0,none⟩) (n+1) u.2) (n+1))) :
  relAt Tryz.prog ops (JH T w0) (RH T) S Q k (o :: rest) a F:=by
 subst hsp;refine relAt_value _ hS (by simp[Region.wanted,hgd]) (fun w m hJ hf=>?_) h
 have h9:=get_after hf j hj;rw[hF] at h9;obtain⟨u,hu,hu1⟩:=hV9 w h9;obtain⟨g,cap,w',hr,hro,hg,hsh⟩:=run_append_shape w t o.type base e i z bytes ht hi hz hsize hby hzs v n (hv w m hJ) ⟨b,0,none⟩ c u hu hu1 rfl h63 hbytes (Nat.le_trans hbase hJ.1.size);have hR:RH T w w':=⟨(Ext.refl T w).grown hg (fun k hk=>.inl (hT k hk)),hsh⟩;refine⟨(g,cap),w',?_,hro,JH.step hJ hR,hR⟩
 unfold execOp;simp only[ho,resolve,invoke,builtin,Sem.run_bind,Sem.run_pure,Result.andThen_ok,List.map_toArray,List.map_cons,List.map_nil,hs,hx,hr]
end
def NumsAt (w:World)(b o:Nat)(xs:List Int):Prop:=∀k x,xs[k]? = some x->w.cell? ⟨b,o+k,none⟩=some (.int .i64 x)
theorem NumsAt.ext {S:List Nat}{w w':World}{b o:Nat}{xs:List Int}(h:NumsAt w b o xs)(hE:Ext S w w')(hS:b∉S):NumsAt w' b o xs:=fun k x hx=>hE.held (h k x hx) hS
theorem NumsAt.blk {w:World}{b:Nat}{t:TypeId}{xs:List Int}(h:Blk w b t (Nums xs)):NumsAt w b 0 xs:=fun k x hx=>by
 rw[h.cell];simp[Nums,hx]
theorem row_cells {w:World}{base g n cap size:Nat}{e:TypeId}{xs:List Value}(h:w.ownsRow base e size (.slice (some ⟨g,0,none⟩) n cap) n xs)(i:Nat)(v:Value)(hi:xs[i]? = some v):w.cell? ⟨g,i,none⟩=some v:=by
 obtain⟨hl,hx⟩:=h;rcases hx with⟨h0,_⟩|⟨g',cap',cur,h0,_,hg,_,_,hc,ht⟩
 ·cases h0
 ·cases h0
  rw[cell_of_row w g i cur e (0,0) hg];have hlt:i<n*size:=by rw[<-hl];exact(List.getElem?_eq_some_iff.1 hi).1
  rw[<-ht,List.getElem?_take,if_pos hlt] at hi;simpa using hi
theorem row_empty (w:World)(e:TypeId)(size:Nat):(w.alloc (.cells #[] e)).ownsRow w.heap.size e size (.slice (some ⟨w.heap.size,0,none⟩) 0 0) 0 []:=
 ⟨by simp,.inr ⟨_,0,#[],rfl,Nat.le_refl _,Blk.new w e #[],Nat.le_refl _,by simp,by simp,by simp⟩⟩
theorem NumsAt.news {w:World}{b o:Nat}{xs:List Int}(h:NumsAt w b o xs):∀j u,(xs.map (Value.int .i64))[j]? = some u->w.cell? ((⟨b,o,none⟩:Addr).add j)=some u:=by
 intro j u hu;rw[Addr.add_mk];rw[List.getElem?_map] at hu;cases hx:xs[j]? with
 | none=>rw[hx] at hu;cases hu
 | some x=>rw[hx] at hu;cases hu;exact h j x hx
def UpW (w:World)(b:Nat)(t:TypeId)(n:Nat)(f:Nat->Value):Prop:=∃cur,Blk w b t cur/\∀i,i<n->cur[i]? = some (f i)
section
variable {w w':World} {b n:Nat} {t:TypeId} {f:Nat->Value}
theorem UpW.ext {S:List Nat}(h:UpW w b t n f)(hE:Ext S w w')(hb:b∉S):UpW w' b t n f:=by obtain⟨cur,h1,h2⟩:=h;exact⟨cur,h1.ext hE hb,h2⟩
theorem UpW.lt (h:UpW w b t n f):b<w.heap.size:=by obtain⟨cur,h1,_⟩:=h;exact h1.lt
theorem UpW.cell (h:UpW w b t n f){i:Nat}(hi:i<n):w.cell? ⟨b,i,none⟩=some (f i):=by obtain⟨cur,h1,h2⟩:=h;rw[h1.cell];exact h2 i hi
theorem UpW.frozen (h:UpW w b t n f)(i:Nat):w.frozen? ⟨b,i,none⟩=false:=by obtain⟨cur,h1,_⟩:=h;exact h1.frozen i
theorem UpW.set (h:UpW w b t n f)(i:Nat)(v:Value){g:Nat->Value}(hg:∀j,j<n->g j=if j=i then v else f j):UpW (w.setCell ⟨b,i,none⟩ v) b t n g:=by
 obtain⟨cur,h1,h2⟩:=h;refine⟨_,h1.set_ i v,fun j hj=>?_⟩
 rw[Array.getElem?_setIfInBounds,hg j hj];have h3:=(Array.getElem?_eq_some_iff.1 (h2 j hj)).1;by_cases hji:j=i
 ·subst hji;simp[h3]
 ·rw[if_neg (Ne.symm hji),if_neg hji];exact h2 j hj
theorem UpW.far (h:UpW w b t n f){p:Addr}(hp:b≠p.block)(u:Value):UpW (w.setCell p u) b t n f:=by obtain⟨cur,h1,h2⟩:=h;exact⟨cur,h1.far hp u,h2⟩
theorem UpW.same (h:UpW w b t n f){g:Nat->Value}(hg:∀j,j<n->g j=f j):UpW w b t n g:=by obtain⟨cur,h1,h2⟩:=h;exact⟨cur,h1,fun i hi=>by rw[hg i hi];exact h2 i hi⟩
theorem UpW.grown {row:Option Nat}(h:UpW w b t n f)(hg:w.grownBy w' row)(hb:row≠some b):UpW w' b t n f:=by obtain⟨cur,h1,h2⟩:=h;exact⟨cur,h1.grown hg hb,h2⟩
end
theorem upw_row {w:World}{K e n:Nat}{v:Value}{l:List Value}(h:w.ownsRow K e 1 v n l)(hn:0<n){f:Nat->Value}(hf:∀i,i<n->l[i]? = some (f i)):∃g cap,v=.slice (some ⟨g,0,none⟩) n cap/\K<=g/\UpW w g e n f/\n<=cap:=by
 rcases h.2 with⟨_,h0⟩|⟨g,cap,cur,hv,hb,hg,hnc,_,_,ht⟩
 ·omega
 ·refine⟨g,cap,hv,hb,⟨cur,hg,fun i hi=>?_⟩,hnc⟩
  have h1:=hf i hi;rw[<-ht,List.getElem?_take,if_pos (by omega)] at h1;simpa using h1
end
section
def sNums (n:Nat)(g:Nat):Spec:=⟨Nat,0,fun b=>.slice (some ⟨b,0,none⟩) n n,fun b w=>∃xs:List Int,xs.length=n/\Blk w b 3 (Nums xs)/\b≠g⟩
theorem sNums.stays {n g:Nat}:∀y w w',Ext [g] w w'->(sNums n g).V y w->(sNums n g).V y w':=fun _ _ _ hE ⟨xs,h1,h2,h3⟩=>⟨xs,h1,h2.ext hE (fun hm=>h3 (List.mem_singleton.1 hm)),h3⟩
section
variable {ops:Array Oper} {S:Nat->Option Spec} {Q:Act->World->Prop} {k:Nat} {o:Oper} {rest:List Oper} {a:Act} {F:Nat->World->Prop} {base g n:Nat} {w0:World}
theorem rel_nums (m:Nat)(xs:List Int)(hS:S k=some (sNums m g))(hw:Region.wanted o (yielded ops a.tmps)=true)(hm:xs.length=m)
  (hh:∀w,(execOp a.eval o).run Tryz.prog w=.ok (.value (.slice (some ⟨w.heap.size,0,none⟩) m m)) (w.alloc (.cells (Nums xs) 3)))
  (h:∀b:Nat,relAt Tryz.prog ops (JS base g n w0) (Ext [g]) S Q (k+1) rest (a.put o.dst (.slice (some ⟨b,0,none⟩) m m)) (upd F k ((sNums m g).V b))):relAt Tryz.prog ops (JS base g n w0) (Ext [g]) S Q k (o :: rest) a F:=by
 refine relAt_value (sNums m g) hS hw (fun w n' hJ _=>?_) h
 have hE:Ext [g] w (w.alloc (.cells (Nums xs) 3)):=(Ext.refl _ _).alloc _;have hgw:=hJ.2.lt;refine⟨w.heap.size,_,hh w,⟨xs,hm,Blk.new _ _ _,by omega⟩,hJ.step hE (hJ.2.alloc _) (by omega),hE⟩
theorem rel_pick (j b m:Nat)(hS:S k=some sAny)(hw:Region.wanted o (yielded ops a.tmps)=true)(hj:o.after.any (fun e=>Region.binds .any e&&e.on==j)=true)(hF:F j=(sNums m g).V b)(hm:0<m/\m<=1000)
  (hh:∀w,(execOp a.eval o).run Tryz.prog w=.ok (.enter 13 #[.pointer (some ⟨g,0,none⟩),.slice (some ⟨b,0,none⟩) m m]) w)
  (h:∀x:Int,relAt Tryz.prog ops (JS base g n w0) (Ext [g]) S Q (k+1) rest (a.put o.dst (.int .i64 x)) (upd F k (fun _=>True))):relAt Tryz.prog ops (JS base g n w0) (Ext [g]) S Q k (o :: rest) a F:=by
 refine relAt_call sAny hS hw ⟨_,_,hh,fun w n' hJ hf=>?_⟩ h
 obtain⟨e,he,hb⟩:=Array.any_eq_true'.1 hj;simp only[Bool.and_eq_true,beq_iff_eq] at hb;have hv:=hf e he hb.1;rw[hb.2,hF] at hv;obtain⟨xs,hx,hB,hbg⟩:=hv;have hp:=pick_any base g (n+3*n'+2) b m 3 xs w hJ.stm hB hbg (by omega);rw[hx] at hp;refine hp.mono ?_
 rintro e w' ⟨r,rfl,_,hE,hS'⟩;exact⟨r,rfl,trivial,hJ.step hE hS' (by omega),hE⟩
end
end
end Go.Proofs.YtfjdmoppfbddpaaGreatDoor
