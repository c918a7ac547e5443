import Derived.Test.YtfppibmloloakaaGreatDoorK03
import Derived.Test.YtfppibmloloakaaGreatDoorK04
import Derived.Laws.AppendOwn
namespace Go.Proofs.YtfppibmloloakaaGreatDoor
open Go.RowKit Go.Proofs.Tryz
set_option linter.all false
def Ed (w:World)(base:Nat)(t:TypeId)(v:Value)(l:List Value):Prop:=w.ownsRow base t 1 v l.length l
theorem Df {w w':World}{base:Nat}{t:TypeId}{v:Value}{l:List Value}{S:List Nat}(h:Ed w base t v l)(hE:Ext S w w')(hS:∀b,v.ownBlock=some b->b∉S):Ed w' base t v l:=by
 obtain⟨hl,hx⟩:=h;refine⟨hl,?_⟩
 rcases hx with h|⟨g,cap,a2,h0,hb,hg,h1,h2,h3,h4⟩
 ·exact .inl h
 ·refine .inr ⟨g,cap,a2,h0,hb,?_,h1,h2,h3,h4⟩
  have a1:g<w.heap.size:=(Array.getElem?_eq_some_iff.1 hg).1;rw[hE.block g a1 (hS g (by rw[h0];rfl))];exact hg
theorem Mr {w:World}{base B:Nat}{t:TypeId}{v:Value}{l:List Value}(h:Ed w base t v l)(hB:B<=base):Ed w B t v l:=by
 obtain⟨hl,hx⟩:=h;refine⟨hl,?_⟩
 rcases hx with h|⟨g,cap,a1,h0,hb,hg,h1,h2,h3,h4⟩
 ·exact .inl h
 ·exact .inr ⟨g,cap,a1,h0,by omega,hg,h1,h2,h3,h4⟩
theorem Bt {w:World}{base:Nat}{t:TypeId}{v:Value}{l:List Value}(h:Ed w base t v l){b:Nat}(hb:v.ownBlock=some b):base<=b/\b<w.heap.size:=by
 obtain⟨hl,hx⟩:=h;rcases hx with⟨h0,h1⟩|⟨g,cap,a2,h0,a1,hg,h1,h2,h3,h4⟩
 ·subst h0;cases hb
 ·subst h0;cases hb;exact⟨a1,(Array.getElem?_eq_some_iff.1 hg).1⟩
theorem Io (w:World)(base:Nat)(t:TypeId):Ed w base t (.slice none 0 0) []:=⟨rfl,.inl ⟨rfl,rfl⟩⟩
theorem Pa {w:World}{base:Nat}{t:TypeId}{v:Value}{l:List Value}(h:Ed w base t v l):∃A c,v=.slice A l.length c/\(A=none->l=[]/\c=0)/\l.length<=c/\∀(g:Nat),A=some g->∀(i:Nat) (x:Value),l[i]? = some x->w.cell? ⟨g,i,none⟩=some x:=by
 obtain⟨hl,hx⟩:=h;rcases hx with⟨h0,h1⟩|⟨g,cap,a1,h0,hb,hg,h1,h2,h3,h4⟩
 ·have h1:=List.length_eq_zero_iff.1 h1;subst h1;exact⟨none,0,h0,fun _=>⟨rfl,rfl⟩,jD _,fun g hg=>by cases hg⟩
 ·refine⟨some ⟨g,0,none⟩,cap,h0,(fun h=>by cases h),h1,fun g' hg' i x hix=>?_⟩
  cases hg'
  rw[cell_of_row w g i a1 t (0,0) hg];rw[<-h4,List.getElem?_take] at hix;split at hix
  ·simpa using hix
  ·cases hix
theorem Ach {w:World}{base:Nat}{t:TypeId}{v:Value}{l:List Value}(h:Ed w base t v l)(hl:0<l.length):∃g c,v=.slice (some ⟨g,0,none⟩) l.length c/\base<=g/\g<w.heap.size/\l.length<=c/\∀(i:Nat) (x:Value),l[i]? = some x->w.cell? ⟨g,i,none⟩=some x:=by
 have hh:=h;obtain⟨a2,hx⟩:=h;rcases hx with⟨h0,h1⟩|⟨g,cap,a6,h0,hb,hg,h1,h2,h3,h4⟩
 ·omega
 ·obtain⟨A,c,hv,hn,hc,a1⟩:=Pa hh;rw[h0] at hv;cases hv
  exact⟨g,cap,h0,hb,(Array.getElem?_eq_some_iff.1 hg).1,h1,fun i x hix=>a1 g rfl i x hix⟩
theorem Wl:∃i,prog.info? 9=some i/\i.zero=some (.string ⟨#[]⟩)/\i.size=1/\i.bytes=16:=info_parts (show((prog).info? 9).map (fun i=>(i.zero,i.size,i.bytes))=some (some (.string ⟨#[]⟩),1,16) by kernel_rfl)
def sV (s:ByteArray):Value:=.string s
theorem Aci {w:World}{base g:Nat}{t:TypeId}{n c:Nat}{l:List ByteArray}(h:Ed w base t (.slice (some g) n c) (l.map sV))(hl:l.length<=1000000):Ak w (some g) 1 sC l:=by
 refine⟨hl,.inr ⟨g,rfl,fun i x hx j v hv=>?_⟩⟩
 obtain⟨A,c',a2,-,-,a1⟩:=Pa h;injection a2 with h1 h2 h3
 have hj:j=0:=by
  cases j with
  | zero=>rfl
  | succ j=>simp[sC] at hv
 subst hj;cases hv
 rw[Nat.mul_one,Nat.add_zero];exact a1 g h1.symm i _ (by rw[List.getElem?_map,hx];rfl)
theorem Kt (w:World)(g:Nat)(u:Value)(h:w.cell? ⟨g,0,none⟩=some u):∀(i:Nat) (x:Value),[u][i]? = some x->w.cell? ((⟨g,0,none⟩:Addr).add i)=some x:=fun i x hi=>by
 match i,hi with
 | 0,hi=>cases hi;rw[Addr.add_mk];exact h
def Aak (t:TypeId)(l:List Value)(w:World)(e:Ending)(w':World):Prop:=∃v,e=.returned v/\Ext [] w w'/\Ed w' w.heap.size t v l
set_option maxRecDepth 100000 in
theorem Aal (A:Option Addr)(n cap:Nat)(l:List ByteArray)(w:World)(h:Ak w A 1 sC l)(hl:l.length=n)(hA:n=0->A=none/\cap=0) :
  Calls prog 189 #[.slice A n cap] w (Aak 9 (l.map sV) w):=by
 obtain⟨h0,hx⟩:=h;rcases hx with hx|⟨b,rfl,hc⟩
 ·subst hx;simp at hl;subst hl;obtain⟨rfl,rfl⟩:=hA rfl;have a1:∀W:World,(binOp .eql 133 (.slice none 0 0) (.slice none 0 0)).run prog W=.ok (.bool true) W:=fun W=>Go.Lib.run_eql_slice_nil (P:=prog) (w:=W) (h:=underlying133) ..
  go_enter func189,ntmps189
  go_wp2_with fail
  go_ret
  exact⟨_,rfl,jF _ _,Io _ _ _⟩
 ·have hn:n≠0:=fun h=>by have:=(hA h).1;cases this
  obtain⟨i0,a2,a6,a7,a8⟩:=Wl;have a1:∀W:World,(binOp .eql 133 (.slice (some b) n cap) (.slice none 0 0)).run prog W=.ok (.bool false) W:=fun W=>Go.Lib.run_eql_slice_nil (P:=prog) (w:=W) (h:=underlying133) ..
  have HH:=hd (fun(i:Nat) (x:ByteArray) (hi:l[i]? = some x)=>(by have:=hc i x hi 0 _ rfl;rw[Nat.mul_one,Nat.add_zero] at this;exact this:w.cell? ⟨b,i,none⟩=some (.string x)));have HL:=hd hl
  have aa:b<w.heap.size:=by
   obtain⟨x,hx⟩:∃x,l[0]? = some x:=⟨_,jJ (by omega)⟩;exact jB w _ (HH.o 0 x hx)
  clear hc hA;go_enter func189,ntmps189
  go_wp2_with (
   refine wpList_append_lies _ rfl _ _ 133 rfl w.heap.size 9 i0 _ 1 16 underlying133 a2 a6 a7 a8 rfl (by decide) _ 0 [] rfl ?c0 ⟨b,0,none⟩ n cap (l.map sV) rfl (by simp;exact HL.o) ?c1 ?c2 (by omega) ?c3 ?c4 ?c5 _ rfl ?_
   case c0=>exact⟨rfl,.inr ⟨w.heap.size,0,#[],rfl,jD _,by show(w.heap.push _)[w.heap.size]? = _;simp,jD _,by decide,by simp,rfl⟩⟩
   case c1=>
    intro i x hx;rw[List.getElem?_map] at hx;cases hy:l[i]? with
    | none=>rw[hy] at hx;cases hx
    | some y=>
     rw[hy] at hx;cases hx
     rw[Addr.add_mk,Nat.zero_add];exact((jF [] w).alloc _).held (HH.o i y hy) (by simp)
   case c2=>intro u hu;obtain⟨y,-,rfl⟩:=List.mem_map.1 hu;rfl
   case c3=>unfold maxLen;omega
   case c4=>omega
   case c5=>simp
   intro g c8 w8 ho hg ha hlt;have HX:=hd (And.intro ho (And.intro hg ha));clear ho hg ha hlt)
  go_ret
  obtain⟨ho,hg,ha⟩:=HX.o;rw[Nat.zero_add,List.nil_append] at ho;refine⟨_,rfl,((jF [] w).alloc _).grown hg (fun k hk=>.inr ?_),?_⟩
  ·cases hk;exact jD _
  ·unfold Ed;rw[List.length_map,HL.o];exact ho
section
section
variable {ops:Array Oper} {p:Nat} {J:(Nat->Bool)->World->Prop} {R:Nat->World->World->Prop} {S:Nat->Option Ba} {Q:Act->World->Prop} {k:Nat} {o:Oper} {rest:List Oper} {a:Act} {F:Nat->World->Prop}
theorem Rw {P:Program}(s:Ba)(hS:S k=some s)(hw:Region.wanted o (yielded ops a.tmps)=true)
  (hstep:∀w ob r,Fp ops k r->J r w->J (off r k) (w.alloc ob)) (hR:∀w ob,R k w (w.alloc ob))
  (hr:∀w r,Fp ops k r->J r w->(∀e∈o.after,Region.binds .any e=true->F e.on w)->∃x ob,(execOp a.eval o).run P w=.ok (.value (s.f x)) (w.alloc ob)/\s.V x (w.alloc ob))
  (h:∀x:s.α,Bb P ops p J R S Q (k+1) rest (a.put o.dst (s.f x)) (upd F k (s.V x))):Bb P ops p J R S Q k (o :: rest) a F:=by
 refine Bv s hS hw (fun w n hg hJ hf=>?_) h
 obtain⟨x,ob,hx,hV⟩:=hr w n hg hJ hf;exact⟨x,_,hx,hV,hstep _ _ _ hg hJ,hR _ _⟩
end
def JA (w0:World)(S:List Nat)(ka:Nat)(r:Nat->Bool)(w:World):Prop:=(r ka=true->Ext [] w0 w)/\(r ka=false->Ext S w0 w)
def RA1 (S:List Nat)(ka:Nat)(j:Nat)(w w':World):Prop:=if j=ka then Ext S w w' else Ext [] w w'
theorem JA.pre {w0 w:World}{S:List Nat}{ka:Nat}{r:Nat->Bool}(h:JA w0 S ka r w)(hr:r ka=true):Ext [] w0 w:=h.1 hr
theorem JA.all {w0 w:World}{S:List Nat}{ka:Nat}{r:Nat->Bool}(h:JA w0 S ka r w):Ext S w0 w:=by
 cases hr:r ka
 ·exact h.2 hr
 ·exact(h.1 hr).nil
theorem JA.offs {w0 w:World}{S:List Nat}{ka i:Nat}{r:Nat->Bool}(h:JA w0 S ka r w)(hi:i≠ka):JA w0 S ka (off r i) w:=by
 have e:off r i ka=r ka:=by unfold off;simp[Ne.symm hi]
 unfold JA;rw[e];exact h
theorem JA.grow {w0 w w':World}{S:List Nat}{ka i:Nat}{r:Nat->Bool}(h:JA w0 S ka r w)(hi:i≠ka)(hE:Ext [] w w'):JA w0 S ka (off r i) w':=by
 have e:off r i ka=r ka:=by unfold off;simp[Ne.symm hi]
 unfold JA;rw[e];exact⟨fun hr=>(h.1 hr).trans hE,fun hr=>(h.2 hr).trans hE.nil⟩
theorem JA.app {w0 w w':World}{S:List Nat}{ka:Nat}{r:Nat->Bool}(h:JA w0 S ka r w)(hE:Ext S w w'):JA w0 S ka (off r ka) w':=by
 have e:off r ka ka=false:=by unfold off;simp
 unfold JA;rw[e];exact⟨(fun hr=>by cases hr),fun _=>h.all.trans hE⟩
theorem rgA {id:Nat}{Q:Exit->Act->World->Prop}{a:Act}{w:World}{l:List Oper}(p ka:Nat)(T:List Nat)(ks:List (Nat×Ba))(hka:decide (ka<l.length)=true)
  (hn:Bi ks ka≠none)
  (hG:∀oi,l.toArray[ka]? = some oi->oi.guard=none)
  (hs:∀i s j,Bi ks i=some s->j≠i->∀x w w',RA1 T ka j w w'->s.V x w->s.V x w')
  (h:Bb prog l.toArray p (JA w T ka) (RA1 T ka) (Bi ks) (fun a w=>wpList prog l.toArray Q (l.drop p) a w) 0 (l.take p) a (fun _ _=>True)) (hm:(prog).follows .mixedOrders=true:=by kernel_rfl) (hB:Ir l.toArray p=true:=by kernel_rfl):(Code.region id l.toArray true).wp prog Q a w:=
 De p (JA w T ka) (RA1 T ka) (Bi ks) hm hB (fun i r w hi hg hJ=>by
  have:i≠ka:=by
   rintro rfl;rcases hi with hi|⟨oi,h1,h2⟩
   ·exact hn hi
   ·exact h2 (hG oi h1)
  exact hJ.offs this) hs ⟨fun _=>(jF _ _).drew,fun hr=>by
   have:ka<l.length:=of_decide_eq_true hka;simp[this] at hr⟩ h
section
variable {P:Program} {ops:Array Oper} {p:Nat} {S:Nat->Option Ba} {Q:Act->World->Prop} {k:Nat} {o:Oper} {rest:List Oper} {a:Act} {F:Nat->World->Prop} {w0:World} {T:List Nat} {ka:Nat}
theorem Oh (s:Ba)(hS:S k=some s)(hw:Region.wanted o (yielded ops a.tmps)=true)(hk:k≠ka)
  (hh:∃(f:FuncId) (a1:Array Value),(∀w,(execOp a.eval o).run P w=.ok (.enter f a1) w)/\
   (∀w r,Fp ops k r->JA w0 T ka r w->(∀e∈o.after,Region.binds .any e=true->F e.on w)->Calls P f a1 w fun e w'=>∃x,e=.returned (s.f x)/\s.V x w'/\Ext [] w w'))
  (h:∀x:s.α,Bb P ops p (JA w0 T ka) (RA1 T ka) S Q (k+1) rest (a.put o.dst (s.f x)) (upd F k (s.V x))):Bb P ops p (JA w0 T ka) (RA1 T ka) S Q k (o :: rest) a F:=by
 obtain⟨f,a1,hr,hu⟩:=hh;refine Fw s hS hw ⟨f,a1,hr,fun w r hg hJ hf=>(hu w r hg hJ hf).mono ?_⟩ h
 rintro e w' ⟨x,he,hV,hE⟩;exact⟨x,he,hV,hJ.grow hk hE,by unfold RA1;rw[ijn hk];exact hE⟩
theorem Rx (s:Ba)(hS:S k=some s)(hw:Region.wanted o (yielded ops a.tmps)=true)(hk:k≠ka)
  (hr:∀w r,Fp ops k r->JA w0 T ka r w->(∀e∈o.after,Region.binds .any e=true->F e.on w)->∃x ob,(execOp a.eval o).run P w=.ok (.value (s.f x)) (w.alloc ob)/\s.V x (w.alloc ob))
  (h:∀x:s.α,Bb P ops p (JA w0 T ka) (RA1 T ka) S Q (k+1) rest (a.put o.dst (s.f x)) (upd F k (s.V x))):Bb P ops p (JA w0 T ka) (RA1 T ka) S Q k (o :: rest) a F:=
 Rw s hS hw (fun w ob r hg hJ=>hJ.grow hk ((jF _ _).alloc _)) (fun w ob=>by unfold RA1;rw[ijn hk];exact(jF _ _).alloc _) hr h
end
def sAp (B e n:Nat)(l:List Value)(X:Value->Nat->World->Prop):Ba:=
 ⟨Nat×Nat,(0,0),fun u=>.slice (some u.1) (n+1) u.2,fun u w=>∃y,X y u.1 w/\w.ownsRow B e 1 (.slice (some u.1) (n+1) u.2) (n+1) (l ++ [y])⟩
section
variable {ops:Array Oper} {p:Nat} {S:Nat->Option Ba} {Q:Act->World->Prop} {k:Nat} {o:Oper} {rest:List Oper} {a:Act} {F:Nat->World->Prop} {w0:World} {T:List Nat} {ka:Nat}
theorem Afu (j b:Nat)(t B:Nat)(e:TypeId)(i:TypeInfo)(z:Value)(bytes:Nat)(v:Value)(n c:Nat)(l:List Value)(s x:Operand)(X9:Nat->Value->World->Prop)(X:Value->Nat->World->Prop)(V9:Nat->World->Prop)
  (hS:S k=some (sAp B e n l X)) (hgd:o.guard=none) (ho:o.op=.call {callee:=.builtin .append,args:=#[s,x],argTypes:=#[t,t] })
  (ht:prog.underlying t=some (.slice e)) (hi:prog.info? e=some i) (hz:i.zero=some z) (hsize:i.size=1) (hby:i.bytes=bytes) (hzs:z.cells.size=1)
  (hs:a.eval s=v) (hx:a.eval x=.slice (some b) 1 c) (hT:T=v.ownBlock.toList) (hk:k=ka)
  (hv:∀w,Ext [] w0 w->w.ownsRow B e 1 v n l)
  (hj:o.after.any (fun e=>Region.binds .any e&&e.on==j)=true) (hF:F j=V9 b) (hV9:∀w,V9 b w->∃u,w.cell? ⟨b,0,none⟩=some u/\u.oneCell'=true/\X9 b u w)
  (hX:∀y g w w',X9 b y w->Ext T w w'->(v.ownBlock=some g\/g=w.heap.size)->g<w'.heap.size->X y g w')
  (h63:n+1<=maxLen) (hbytes:(n+1)*bytes<=140737488355328) (hbase:B<=w0.heap.size)
  (h:∀u:Nat×Nat,Bb prog ops p (JA w0 T ka) (RA1 T ka) S Q (k+1) rest (a.put o.dst (.slice (some u.1) (n+1) u.2)) (upd F k ((sAp B e n l X).V u))) :
  Bb prog ops p (JA w0 T ka) (RA1 T ka) S Q k (o :: rest) a F:=by
 subst hT;subst hk;refine Bv _ hS (by simp[Region.wanted,hgd]) (fun w m hgo hJ hf=>?_) h
 have h9:=Bd hf j hj;rw[hF] at h9;obtain⟨u,hu,a1,a2⟩:=hV9 w h9;obtain⟨g,cap,w',hr,a6,hg,a7,a8⟩:=run_append_lies (P:=prog) w t o.type B e i z 1 bytes ht hi hz hsize hby hzs (by decide) v n l (hv w (hJ.pre hgo.mine)) ⟨b,0,none⟩ 1 c [u] rfl (Kt _ _ _ hu) (fun y hy=>by rw[jA.1 hy];exact a1) (by decide) h63 hbytes (nt hbase hJ.all.size) _ rfl;have hE:Ext v.ownBlock.toList w w':=(jF _ w).grown hg (fun k hk=>.inl (by rw[hk];simp));refine⟨(g,cap),w',?_,⟨u,hX _ _ _ _ a2 hE a7 a8,a6⟩,hJ.app hE,by unfold RA1;rw[ijp rfl];exact hE⟩
 unfold execOp;simp only[ho,resolve,invoke,builtin,Sem.run_bind,Sem.run_pure,Result.andThen_ok,List.map_toArray,List.map_cons,List.map_nil,hs,hx,hr];rfl
end
theorem RA1.all {S:List Nat}{ka j:Nat}{w w':World}(h:RA1 S ka j w w'):Ext S w w':=by
 unfold RA1 at h;split at h
 ·exact h
 ·exact h.nil
theorem RA1.pre {S:List Nat}{ka j:Nat}{w w':World}(h:RA1 S ka j w w')(hj:j≠ka):Ext [] w w':=by
 unfold RA1 at h;rw[ijn hj] at h;exact h
theorem Lt {a b c:Nat}{x y z:Ba}{R:Nat->World->World->Prop}(hx:∀j,j≠a->∀u w w',R j w w'->x.V u w->x.V u w')(hy:∀j,j≠b->∀u w w',R j w w'->y.V u w->y.V u w')(hz:∀j,j≠c->∀u w w',R j w w'->z.V u w->z.V u w') :
  ∀i s j,Bi [(a,x),(b,y),(c,z)] i=some s->j≠i->∀u w w',R j w w'->s.V u w->s.V u w':=fun i s j h hj=>by
 have hm:=Fx h;simp only[jE,Prod.mk.injEq,jH,or_false] at hm;rcases hm with⟨rfl,rfl⟩|⟨rfl,rfl⟩|⟨rfl,rfl⟩
 ·exact hx j hj
 ·exact hy j hj
 ·exact hz j hj
end
end Go.Proofs.YtfppibmloloakaaGreatDoor
