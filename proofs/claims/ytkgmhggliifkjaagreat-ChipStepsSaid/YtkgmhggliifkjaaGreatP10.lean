import Derived.Test.YtkgmhggliifkjaaGreatP04
import Derived.Lib.LazyBuf
namespace Go.Proofs.YtkgmhggliifkjaaGreat
open Go.RowKit Go.Proofs.Tryz
set_option linter.all false
set_option maxHeartbeats 8000000
set_option maxRecDepth 100000
def Ek (w:World)(b o:Nat)(xs:List Int):Prop:=∀k x,xs[k]? = some x->w.cell? ⟨b,o+k,none⟩=some (.int .i64 x)
theorem Ek.ext {S:List Nat}{w w':World}{b o:Nat}{xs:List Int}(h:Ek w b o xs)(hE:Ext S w w')(hS:b∉S):Ek w' b o xs:=fun k x hx=>hE.held (h k x hx) hS
theorem Ek.blk {w:World}{b:Nat}{t:TypeId}{xs:List Int}(h:Blk w b t (Db xs)):Ek w b 0 xs:=fun k x hx=>by
 rw[h.cell];simp[Db,hx]
theorem Ty {w:World}{base g n cap size:Nat}{e:TypeId}{xs:List Value}(h:w.ownsRow base e size (.slice (some g) n cap) n xs)(i:Nat)(v:Value)(hi:xs[i]? = some v):w.cell? ⟨g,i,none⟩=some v:=by
 obtain⟨hl,hx⟩:=h;rcases hx with⟨h0,_⟩|⟨g',cap',cur,h0,_,hg,_,_,hc,ht⟩
 ·cases h0
 ·cases h0
  rw[cell_of_row w g i cur e (0,0) hg];have hlt:i<n*size:=by rw[<-hl];exact(ils hi).1
  rw[<-ht,List.getElem?_take,ijp hlt] at hi;simpa using hi
theorem Tz (w:World)(e:TypeId)(size:Nat):(w.alloc (.cells #[] e)).ownsRow w.heap.size e size (.slice (some w.heap.size) 0 0) 0 []:=
 ⟨by simp,.inr ⟨_,0,#[],rfl,Nat.le_refl _,Blk.new w e #[],Nat.le_refl _,by simp,by simp,by simp⟩⟩
theorem Sw (l:List Ins):∀u∈codeCells l,u.oneCell'=true:=by
 intro u hu;obtain⟨x,_,hx⟩:=List.mem_flatMap.1 hu;simp[Ins.cells] at hx;rcases hx with rfl|rfl|rfl|rfl|rfl|rfl|rfl|rfl|rfl<;>rfl
theorem Va (b o cap:Nat)(xs:List Ins)(w:World)(h:RdC w (some ⟨b,o,none⟩) xs)(h0:0<xs.length)(hl:xs.length<=100000) :
  Calls prog 57 #[.slice (some ⟨b,o,none⟩) xs.length cap] w fun e w'=>∃g c',e=.returned (.slice (some ⟨g,0,none⟩) xs.length c')/\Ext [] w w'/\RdC w' (some ⟨g,0,none⟩) xs/\w.heap.size<=g/\g<w'.heap.size:=by
 obtain⟨i0,hi0,hz0,hz1,hz2⟩:=info_parts Lp;have HH:=hd h;clear h
 have hcells:∀w',Ext [] w w'->∀j u,(codeCells xs)[j]? = some u->w'.cell? ((⟨b,o,none⟩:Addr).add j)=some u:=by
  intro w' hE j u hu;rw[Addr.add_mk];rcases HH.o with hx|⟨b',o',he,hc⟩
  ·rw[hx] at h0;cases h0
  ·cases he
   have hj:j<xs.length*9:=by rw[<-Bg];exact(ils hu).1
   have hk:j / 9<xs.length:=by omega
   obtain⟨x,hx⟩:∃x,xs[j / 9]? = some x:=⟨_,List.getElem?_eq_getElem hk⟩;have hr:j % 9<x.cells.length:=by show j % 9<9;omega
   have hget:=Da xs (j / 9) x hx (j % 9) _ (List.getElem?_eq_getElem hr);rw[show j / 9*9+j % 9=j by omega,hu] at hget;have:=hc (j / 9) x hx (j % 9) _ (List.getElem?_eq_getElem hr);rw[show o+j / 9*9+j % 9=o+j by omega,<-hget] at this;exact hE.held this (by simp)
 have HC:=hd hcells;clear hcells;have heq:∀W:World,(binOp .eql 28 (.slice (some ⟨b,o,none⟩) xs.length cap) (.slice none 0 0)).run prog W=.ok (.bool false) W:=fun W=>Go.Lib.run_eql_slice_nil (P:=prog) (w:=W) (h:=underlying28) ..
 go_enter func57,ntmps57
 go_wp2_with (
  refine wpList_append_lies _ rfl _ _ 28 rfl w.heap.size 76 i0 _ 9 72 underlying28 hi0 hz0 hz1 hz2 rfl (by decide) _ _ _ rfl (Tz w 76 9) ⟨b,o,none⟩ xs.length cap (codeCells xs) rfl (Bg xs) ?c1 ?c2 h0 ?c3 ?c4 ?c5 _ rfl ?_
  case c1=>exact HC.o _ (er.alloc _)
  case c2=>exact Sw xs
  case c3=>unfold maxLen;omega
  case c4=>omega
  case c5=>simp
  intro g cap w2 ho hg ha hlt;have HX:=hd (And.intro ho (And.intro hg (And.intro ha hlt)));clear ho hg ha hlt)
 go_ret
 obtain⟨ho,hg,ha,hlt⟩:=HX.o;rw[Nat.zero_add,List.nil_append] at ho;refine⟨g,cap,rfl,((Ext.refl [] w).alloc _).grown hg (fun k hk=>.inr ?_),?_,?_,hlt⟩
 ·cases hk;exact Nat.le_refl _
 ·refine .inr ⟨g,0,rfl,fun k x hx j v hv=>?_⟩
  refine Ty ho _ v ?_
  rw[Nat.zero_add];exact Da xs k x hx j v hv
 ·rcases ha with ha|ha
  ·cases ha;exact Nat.le_refl _
  ·rw[ha];simp
theorem Ek.news {w:World}{b o:Nat}{xs:List Int}(h:Ek w b o xs):∀j u,(xs.map (Value.int .i64))[j]? = some u->w.cell? ((⟨b,o,none⟩:Addr).add j)=some u:=by
 intro j u hu;rw[Addr.add_mk];rw[List.getElem?_map] at hu;cases hx:xs[j]? with
 | none=>rw[hx] at hu;cases hu
 | some x=>rw[hx] at hu;cases hu;exact h j x hx
def Xd (xs:List Int)(w:World)(e:Ending)(w':World):Prop:=
 ∃g c',e=.returned (.slice (some ⟨g,0,none⟩) xs.length c')/\Ext [] w w'/\w'.ownsRow w.heap.size 3 1 (.slice (some ⟨g,0,none⟩) xs.length c') xs.length (xs.map (Value.int .i64))
theorem Io (b o cap:Nat)(xs:List Int)(w:World)(h:Ek w b o xs)(h0:0<xs.length)(hl:xs.length<=10000000) :
  Calls prog 37 #[.slice (some ⟨b,o,none⟩) xs.length cap] w (Xd xs w):=by
 obtain⟨i0,hi0,hz0,hz1,hz2⟩:=info_parts (show((prog).info? 3).map (fun i=>(i.zero,i.size,i.bytes))=some (some (.int .i64 0),1,8) by kernel_rfl);have HH:=hd h;clear h;have heq:∀W:World,(binOp .eql 22 (.slice (some ⟨b,o,none⟩) xs.length cap) (.slice none 0 0)).run prog W=.ok (.bool false) W:=fun W=>Go.Lib.run_eql_slice_nil (P:=prog) (w:=W) (h:=underlying22) ..
 go_enter func37,ntmps37
 go_wp2_with (
  refine wpList_append_lies _ rfl _ _ 22 rfl w.heap.size 3 i0 _ 1 8 underlying22 hi0 hz0 hz1 hz2 rfl (by decide) _ _ _ rfl (Tz w 3 1) ⟨b,o,none⟩ xs.length cap (xs.map (Value.int .i64)) rfl (by simp) ?c1 ?c2 h0 ?c3 ?c4 ?c5 _ rfl ?_
  case c1=>exact(HH.o.ext ((Ext.refl [] _).alloc _) (by simp)).news
  case c2=>intro u hu;obtain⟨x,_,rfl⟩:=List.mem_map.1 hu;rfl
  case c3=>unfold maxLen;omega
  case c4=>omega
  case c5=>simp
  intro g cap w2 ho hg ha hlt;have HX:=hd (And.intro ho (And.intro hg (And.intro ha hlt)));clear ho hg ha hlt)
 go_ret
 obtain⟨ho,hg,ha,hlt⟩:=HX.o;rw[Nat.zero_add,List.nil_append] at ho;refine⟨g,cap,rfl,((Ext.refl [] w).alloc _).grown hg (fun k hk=>.inr ?_),ho⟩
 cases hk;exact Nat.le_refl _
def Es (w w':World):Prop:=∀(k:Nat) (cur:Array Value) (t:TypeId),w.heap[k]? = some (.cells cur t (0,0))->∃cur':Array Value,w'.heap[k]? = some (.cells cur' t (0,0))/\cur'.size=cur.size
theorem Es.refl (w:World):Es w w:=fun _ cur _ h=>⟨cur,h,rfl⟩
theorem Es.trans {a b c:World}(h:Es a b)(k:Es b c):Es a c:=fun i cur t hi=>by
 obtain⟨c1,h1,e1⟩:=h i cur t hi;obtain⟨c2,h2,e2⟩:=k i c1 t h1;exact⟨c2,h2,e2.trans e1⟩
theorem Es.alloc {a w:World}(h:Es a w)(o:Obj):Es a (w.alloc o):=h.trans fun i cur t hi=>
 ⟨cur,(Below.heap_alloc w o i (Array.getElem?_eq_some_iff.1 hi).1).trans hi,rfl⟩
theorem Es.drew {a w:World}(h:Es a w):Es a w.drew:=h
theorem Es.of_ext {w w':World}(h:Ext [] w w'):Es w w':=fun i cur _ hi=>⟨cur,(h.block i (Array.getElem?_eq_some_iff.1 hi).1 (by simp)).trans hi,rfl⟩
theorem Es.setRow {w:World}(g:Nat)(cs old:Array Value)(t:TypeId)(hg:w.heap[g]? = some (.cells old t (0,0)))(hs:cs.size=old.size):Es w (w.setRow g cs):=fun k cur u hk=>by
 by_cases h:k=g
 ·subst h;rw[hg] at hk;cases hk
  exact⟨cs,setRow_heap w k old cs t (0,0) hg,hs⟩
 ·exact⟨cur,(setRow_other w g k cs h).trans hk,rfl⟩
def Row (w:World)(base:Nat)(e:TypeId)(v:Value)(n:Nat):Prop:=∃xs,w.ownsRow base e 1 v n xs
theorem Row.shape {w w':World}{base:Nat}{e:TypeId}{v:Value}{n:Nat}(h:Row w base e v n)(hs:Es w w'):Row w' base e v n:=by
 obtain⟨xs,hl,hx⟩:=h;rcases hx with⟨rfl,rfl⟩|⟨g,cap,cur,rfl,hb,hg,h1,h2,h3,h4⟩
 ·exact⟨[],rfl,.inl ⟨rfl,rfl⟩⟩
 ·obtain⟨cur',hg',hz⟩:=hs g cur e hg;refine⟨cur'.toList.take (n*1),?_,.inr ⟨g,cap,cur',rfl,hb,hg',h1,h2,hz.trans h3,rfl⟩⟩
  rw[List.length_take,Array.length_toList,hz,h3];exact Nat.min_eq_left (Nat.mul_le_mul_right _ h1)
theorem Row.nil (w:World)(base:Nat)(e:TypeId):Row w base e (.slice none 0 0) 0:=⟨[],rfl,.inl ⟨rfl,rfl⟩⟩
def Ahr (code ends main banks set queues:Value)(r1 pc cyc:Int)(over:Bool):Array Value:=
 #[.int .i64 8,.int .i64 2,.int .i64 256,.int .i64 2,.int .i64 1,code,ends,main,banks,set,.int .i64 0,.int .i64 r1,.int .i64 0,.int .i64 0,.int .i64 0,.int .i64 0,.int .i64 0,.int .i64 0,.int .i64 0,.int .i64 0,.int .i64 0,.int .i64 0,.int .i64 0,.int .i64 0,.int .i64 0,.int .i64 0,.int .i64 0,.int .i64 0,.int .i64 0,.int .i64 0,.int .i64 0,.int .i64 0,.int .i64 0,.int .i64 0,.int .i64 0,.int .i64 0,.int .i64 0,.int .i64 0,.int .i64 0,.int .i64 0,.int .i64 0,.int .i64 0,.int .i64 0,.int .i64 0,.int .i64 0,.int .i64 0,.int .i64 0,.int .i64 0,.int .i64 0,.int .i64 0,.int .i64 0,.int .i64 0,.int .i64 0,.int .i64 0,.int .i64 0,.int .i64 0,.int .i64 0,.int .i64 0,.int .i64 0,.int .i64 0,.int .i64 0,.int .i64 0,.int .i64 0,.int .i64 0,.int .i64 0,.int .i64 0,.int .i64 0,.int .i64 0,.int .i64 0,.int .i64 0,.int .i64 0,.int .i64 0,.int .i64 0,.int .i64 0,.int .i64 0,.int .i64 0,.int .i64 0,.int .i64 0,.int .i64 0,.int .i64 0,.int .i64 0,.int .i64 0,.int .i64 0,.int .i64 0,.int .i64 0,.int .i64 0,.int .i64 0,.int .i64 0,.int .i64 0,.int .i64 0,.int .i64 0,.int .i64 0,.int .i64 0,.int .i64 0,.int .i64 0,.int .i64 0,.int .i64 0,.int .i64 0,.int .i64 0,.int .i64 0,.int .i64 0,.int .i64 0,.int .i64 0,.int .i64 0,.int .i64 0,.int .i64 0,.int .i64 0,.int .i64 0,.int .i64 0,.int .i64 0,.int .i64 0,.int .i64 0,.int .i64 0,.int .i64 0,.int .i64 0,.int .i64 0,.int .i64 0,.int .i64 0,.int .i64 0,.int .i64 0,.int .i64 0,.int .i64 0,.int .i64 0,.int .i64 0,.int .i64 0,.int .i64 0,.int .i64 0,.int .i64 0,.int .i64 0,.int .i64 0,.int .i64 0,.int .i64 0,.int .i64 0,.int .i64 0,.int .i64 0,.int .i64 0,.int .i64 0,.int .i64 0,.int .i64 0,.int .i64 0,.int .i64 0,.int .i64 0,.int .i64 0,.int .i64 0,.int .i64 0,.int .i64 0,.int .i64 0,.int .i64 0,.int .i64 0,.int .i64 0,.int .i64 0,.int .i64 0,.int .i64 0,.int .i64 0,.int .i64 0,.int .i64 0,.int .i64 0,.int .i64 0,.int .i64 0,.int .i64 0,.int .i64 0,.int .i64 0,queues,.slice none 0 0,.int .i64 pc,.int .i64 cyc,.int .i64 0,.int .i64 0,.bool over,.bool false]
section
def JH (T:List Nat)(w0:World)(_:Nat)(w:World):Prop:=Ext T w0 w/\Es w0 w
def RH (T:List Nat)(w w':World):Prop:=Ext T w w'/\Es w w'
theorem JH.less {T:List Nat}{w0:World}(k:Nat)(w:World)(h:JH T w0 (k+1) w):JH T w0 k w:=h
theorem JH.start {T:List Nat}{w0:World}{p:Nat}:JH T w0 p w0.drew:=⟨er.drew,(Es.refl _).drew⟩
theorem rgH {id:Nat}{Q:Exit->Act->World->Prop}{a:Act}{w:World}{l:List Oper}(p:Nat)(ks:List (Nat×Bo))(hs:Ah (Bw ks) (RH []))(h:Ax prog l.toArray (JH [] w) (RH []) (Bw ks) (fun a w=>wpList prog l.toArray Q (l.drop p) a w) 0 (l.take p) a (fun _ _=>True))(hm:(prog).follows .mixedOrders=true:=by kernel_rfl)(hB:Lm l.toArray p=true:=by kernel_rfl):(Code.region id l.toArray true).wp prog Q a w:=
 Am p (JH [] _) (RH []) (Bw ks) hm hB JH.less hs JH.start h
theorem JH.step {T:List Nat}{w0 w w':World}{k n:Nat}(h:JH T w0 k w)(hR:RH T w w'):JH T w0 n w':=⟨h.1.trans hR.1,h.2.trans hR.2⟩
theorem RH.alloc {T:List Nat}(w:World)(o:Obj):RH T w (w.alloc o):=⟨er.alloc _,(Es.refl _).alloc _⟩
theorem Cm {o:Oper}{F:Nat->World->Prop}{w:World}(hf:∀e∈o.after,Region.binds .any e=true->F e.on w)(j:Nat)(hj:o.after.any (fun e=>Region.binds .any e&&e.on==j)=true):F j w:=by
 obtain⟨e,he,hb⟩:=Array.any_eq_true'.1 hj;simp only[Bool.and_eq_true,beq_iff_eq] at hb;have hv:=hf e he hb.1;rwa [hb.2] at hv
section
variable {P:Program} {ops:Array Oper} {S:Nat->Option Bo} {Q:Act->World->Prop} {k:Nat} {o:Oper} {rest:List Oper} {a:Act} {F:Nat->World->Prop} {T:List Nat} {w0:World}
theorem Ct (s:Bo)(hS:S k=some s)(hw:Region.wanted o (yielded ops a.tmps)=true)
  (hr:∀w n,JH T w0 (n+1) w->(∀e∈o.after,Region.binds .any e=true->F e.on w)->∃x ob,(execOp a.eval o).run P w=.ok (.value (s.f x)) (w.alloc ob)/\s.V x (w.alloc ob))
  (h:∀x:s.α,Ax P ops (JH T w0) (RH T) S Q (k+1) rest (a.put o.dst (s.f x)) (upd F k (s.V x))):Ax P ops (JH T w0) (RH T) S Q k (o :: rest) a F:=by
 refine Dh s hS hw (fun w n hJ hf=>?_) h
 obtain⟨x,ob,hx,hV⟩:=hr w n hJ hf;exact⟨x,_,hx,hV,JH.step hJ (RH.alloc w ob),RH.alloc w ob⟩
theorem Agl (s:Bo)(x:s.α)(hS:S k=some s)(hw:Region.wanted o (yielded ops a.tmps)=true)
  (hr:∀w n,JH T w0 (n+1) w->(execOp a.eval o).run P w=.ok (.value (s.f x)) w)
  (hV:∀w n,JH T w0 (n+1) w->(∀e∈o.after,Region.binds .any e=true->F e.on w)->s.V x w)
  (h:∀x:s.α,Ax P ops (JH T w0) (RH T) S Q (k+1) rest (a.put o.dst (s.f x)) (upd F k (s.V x))):Ax P ops (JH T w0) (RH T) S Q k (o :: rest) a F:=
 Dh s hS hw (fun w n hJ hf=>⟨x,w,hr w n hJ,hV w n hJ hf,hJ,er,Es.refl _⟩) h
theorem Et (s:Bo)(hS:S k=some s)(hw:Region.wanted o (yielded ops a.tmps)=true)
  (hh:∃(f:FuncId) (args:Array Value),(∀w,(execOp a.eval o).run P w=.ok (.enter f args) w)/\
   (∀w n,JH T w0 (n+1) w->(∀e∈o.after,Region.binds .any e=true->F e.on w)->Calls P f args w fun e w'=>∃x,e=.returned (s.f x)/\s.V x w'/\Ext [] w w'))
  (h:∀x:s.α,Ax P ops (JH T w0) (RH T) S Q (k+1) rest (a.put o.dst (s.f x)) (upd F k (s.V x))):Ax P ops (JH T w0) (RH T) S Q k (o :: rest) a F:=by
 obtain⟨f,args,hr,hu⟩:=hh;refine Ey s hS hw ⟨f,args,hr,fun w n hJ hf=>(hu w n hJ hf).mono ?_⟩ h
 rintro e w' ⟨x,he,hV,hE⟩;have hR:RH T w w':=⟨hE.nil,Es.of_ext hE⟩;exact⟨x,he,hV,JH.step hJ hR,hR⟩
end
section
variable {ops:Array Oper} {p:Nat} {J:(Nat->Bool)->World->Prop} {S:Nat->Option Bo} {Q:Act->World->Prop} {k:Nat} {o:Oper} {rest:List Oper} {a:Act} {F:Nat->World->Prop} {T:List Nat}
end
def sMk (n:Nat):Bo:=⟨Nat,0,fun b=>.slice (some ⟨b,0,none⟩) n n,fun _ _=>True⟩
def Ae2 (xs:List Ins):Bo:=⟨Nat×Nat,(0,0),fun u=>.slice (some u.1) xs.length u.2,fun u w=>RdC w (some u.1) xs/\u.1<w.heap.size⟩
def Ae3 (B:Nat)(xs:List Int):Bo:=⟨Nat×Nat,(0,0),fun u=>.slice (some u.1) xs.length u.2,fun u w=>w.ownsRow B 3 1 (.slice (some u.1) xs.length u.2) xs.length (xs.map (Value.int .i64))⟩
def Zx:Bo:=⟨Nat,0,fun b=>.slice (some ⟨b,0,none⟩) 1 1,fun b w=>Blk w b 94 #[.pointer none]⟩
structure CU where
 g1:Nat
 c1:Nat
 b2:Nat
 g3:Nat
 c3:Nat
 b4:Nat
def CU.cells (u:CU)(n mn:Nat)(banks set:Value)(r1 pc cyc:Int)(over:Bool):Array Value:=
 Ahr (.slice (some u.g1) n u.c1) (.slice (some u.b2) n n) (.slice (some u.g3) mn u.c3) banks set (.slice (some u.b4) 1 1) r1 pc cyc over
structure CF (B:Nat)(xs:List Ins)(main:List Int)(u:CU)(w:World):Prop where
 code:RdC w (some u.g1) xs
 codeLt:u.g1<w.heap.size
 main:w.ownsRow B 3 1 (.slice (some u.g3) main.length u.c3) main.length (main.map (Value.int .i64))
 queue:Blk w u.b4 94 #[.pointer none]
theorem CF.ext {T:List Nat}{B:Nat}{xs:List Ins}{main:List Int}{u:CU}{w w':World}(h:CF B xs main u w)(hE:Ext T w w')(h1:u.g1∉T)(h3:u.g3∉T)(h4:u.b4∉T):CF B xs main u w':=
 ⟨h.code.ext hE (fun _ ha=>by cases ha;exact h1),nl h.codeLt hE.size,by
  have hm:=h.main;exact An hm hE (fun k hk=>by cases hk;exact h3),h.queue.ext hE h4⟩
def Ag8 (B:Nat)(xs:List Ins)(main:List Int):Bo:=⟨CU,⟨0,0,0,0,0,0⟩,fun u=>.agg (u.cells xs.length main.length (.slice none 0 0) (.slice none 0 0) 0 0 0 false),fun u w=>CF B xs main u w⟩
def Made (B:Nat)(xs:List Ins)(main:List Int)(b:Nat)(w:World):Prop:=
 ∃u,CF B xs main u w/\Blk w b 72 (u.cells xs.length main.length (.slice none 0 0) (.slice none 0 0) 0 0 0 false)/\u.g1<b/\u.g3<b/\u.b4<b
def Ae4 (B:Nat)(xs:List Ins)(main:List Int):Bo:=⟨Nat,0,fun b=>.pointer (some ⟨b,0,none⟩),fun b w=>Made B xs main b w⟩
theorem sMk.stays {n:Nat}{R:World->World->Prop}:∀y w w',R w w'->(sMk n).V y w->(sMk n).V y w':=fun _ _ _ _ h=>h
theorem Ae2.stays {xs:List Ins}:∀y w w',RH [] w w'->(Ae2 xs).V y w->(Ae2 xs).V y w':=fun _ _ _ hR h=>⟨h.1.ext hR.1 (by simp),nl h.2 hR.1.size⟩
theorem Ae3.stays {B:Nat}{xs:List Int}:∀y w w',RH [] w w'->(Ae3 B xs).V y w->(Ae3 B xs).V y w':=fun _ _ _ hR h=>An h hR.1 (by simp)
theorem Zx.stays:∀y w w',RH [] w w'->Zx.V y w->Zx.V y w':=fun _ _ _ hR h=>Blk.ext h hR.1 (List.not_mem_nil)
theorem Ag8.stays {B:Nat}{xs:List Ins}{main:List Int}:∀y w w',RH [] w w'->(Ag8 B xs main).V y w->(Ag8 B xs main).V y w':=fun _ _ _ hR h=>CF.ext h hR.1 (by simp) (by simp) (by simp)
theorem Ae4.stays {B:Nat}{xs:List Ins}{main:List Int}:∀y w w',RH [] w w'->(Ae4 B xs main).V y w->(Ae4 B xs main).V y w':=fun _ _ _ hR ⟨u,h1,h2,h3⟩=>⟨u,h1.ext hR.1 (by simp) (by simp) (by simp),h2.ext hR.1 (List.not_mem_nil),h3⟩
end
section
theorem Abn {w:World}{b b' n size:Nat}{e:TypeId}{v:Value}{xs:List Value}(h:w.ownsRow b e size v n xs)(hb:b'<=b):w.ownsRow b' e size v n xs:=by
 refine⟨h.1,?_⟩
 rcases h.2 with h|⟨g,c,cur,h1,h2,h3⟩
 ·exact .inl h
 ·exact .inr ⟨g,c,cur,h1,nt hb h2,h3⟩
theorem Es.set {a w:World}(h:Es a w)(b i:Nat)(v:Value):Es a (w.setCell ⟨b,i,none⟩ v):=h.trans fun k cur t hk=>by
 by_cases hb:k=b
 ·subst hb;exact⟨cur.setIfInBounds i v,by simp[World.setCell,Array.getElem?_modify,hk],by simp⟩
 ·exact⟨cur,(Below.heap_setCell w ⟨b,i,none⟩ v k hb).trans hk,rfl⟩
def Ag9 (T:List Nat):Bo:=⟨Nat,0,fun b=>.slice (some ⟨b,0,none⟩) 1 1,fun b w=>b∉T/\∃u,w.cell? ⟨b,0,none⟩=some u/\u.oneCell'=true⟩
def Aha (base:Nat)(e:TypeId)(n:Nat):Bo:=⟨Nat×Nat,(0,0),fun u=>.slice (some u.1) (n+1) u.2,fun u w=>Row w base e (.slice (some u.1) (n+1) u.2) (n+1)⟩
theorem Ag9.stays {T:List Nat}:∀y w w',RH T w w'->(Ag9 T).V y w->(Ag9 T).V y w':=fun _ _ _ hR ⟨h1,u,h2,h3⟩=>⟨h1,u,hR.1.held h2 h1,h3⟩
theorem Aha.stays {T:List Nat}{base n:Nat}{e:TypeId}:∀y w w',RH T w w'->(Aha base e n).V y w->(Aha base e n).V y w':=fun _ _ _ hR h=>Row.shape h hR.2
def two (v u:Value):List Nat:=v.ownBlock.toList ++ u.ownBlock.toList
structure JB (u:CU)(n mn b:Nat)(vb vs:Value)(k base:Nat)(wq:World)(r:Nat->Bool)(w:World):Prop where
 ext:Ext (b :: two vb vs) wq w
 shape:Es wq w
 blk:∃v8,Blk w b 72 (u.cells n mn v8 vs 0 0 0 false)/\(r 22=true->v8=vb)/\(r 22=false->Row w base 22 v8 (k+1))
section
variable {u:CU} {n mn b:Nat} {vb vs:Value} {k base:Nat} {wq w w':World} {r:Nat->Bool}
theorem Dj {r:Nat->Bool}{i j:Nat}(h:i≠j):off r i j=r j:=by
 have:(j==i)=false:=by simpa using fun e=>h e.symm
 simp[off,this]
theorem JB.less (h:JB u n mn b vb vs k base wq r w)(i:Nat)(hi:i≠22):JB u n mn b vb vs k base wq (off r i) w:=by
 obtain⟨v8,h1,h2,h3⟩:=h.blk;exact⟨h.ext,h.shape,v8,h1,by rw[Dj hi];exact h2,by rw[Dj hi];exact h3⟩
theorem JB.alloc (h:JB u n mn b vb vs k base wq r w)(o:Obj):JB u n mn b vb vs k base wq r (w.alloc o):=by
 obtain⟨v8,h1,h2,h3⟩:=h.blk;exact⟨h.ext.alloc _,h.shape.alloc _,v8,h1.alloc _,h2,fun hr=>(h3 hr).shape ((Es.refl _).alloc _)⟩
theorem JB.grown (h:JB u n mn b vb vs k base wq r w){row:Option Nat}(hR:RH (b :: two vb vs) w w')(hg:w.grownBy w' row)(hb:row≠some b):JB u n mn b vb vs k base wq r w':=by
 obtain⟨v8,h1,h2,h3⟩:=h.blk;exact⟨h.ext.trans hR.1,h.shape.trans hR.2,v8,h1.grown hg hb,h2,fun hr=>(h3 hr).shape hR.2⟩
end
end
theorem Xe (p:Int->Bool)(hF:∀x W,Calls prog 71 #[.int .i64 x] W (fun e w'=>e=.returned (.bool (p x))/\Ext [] W w'))(b o cap:Nat)(xs:List Int)(w:World)(h:Ek w b o xs)(hl:xs.length<=10000000)(hb:b<w.heap.size) :
  Calls prog 65 #[.slice (some ⟨b,o,none⟩) xs.length cap,.func (.func 71) #[] #[]] w fun e w'=>∃r:Int,e=.returned (.int .i64 r)/\(0<=r ↔ xs.any p=true)/\Ext [] w w':=by
 have HH:=hd h;have HF:=hd hF;clear h hF;go_enter func65,ntmps65
 go_wp2_with fail
 go_loopw [8] (fun i wr=>∃k:Nat,i=.int .i64 k/\k<=xs.length/\Hd (∀j y,j<k->xs[j]? = some y->p y=false)/\Ext [] w wr) (fun i _=>(xs.length-intOf i).toNat)
 case atStart=>exact⟨0,rfl,Nat.zero_le _,hd fun j y hj=>absurd hj (by omega),er⟩
 case round=>
  obtain⟨k,rfl,hk,hn,hE⟩:=hrel;by_cases hlt:k<xs.length
  ·obtain⟨x,hx⟩:∃x,xs[k]? = some x:=⟨_,List.getElem?_eq_getElem hlt⟩;have hc:=hE.held (HH.o k x hx) (by simp);have hbl:b<wr.heap.size:=nl hb hE.size;have HX:=hd hx;have HE:=hd hE;clear hx hE;go_wp2_with fail
   refine(HF.o x _).mono ?_
   rintro e w2 ⟨rfl,hE2⟩;have HE2:=hd (HE.o.trans hE2);clear hE2 hc;cases hq:p x
   ·have HQ:=hd hq;clear hq;go_wp2_with fail
    go_round
    case rel=>
     refine⟨k+1,by go_num,by omega,hd fun j z hj hz=>?_,HE2.o⟩
     rcases Nat.lt_or_ge j k with h1|h1
     ·exact hn.o j z h1 hz
     ·have:j=k:=by omega
      subst this;rw[HX.o] at hz;cases hz
      exact HQ.o
    case measure=>simp[intOf];omega
   ·have HQ:=hd hq;clear hq;go_wp2_with fail
    go_ret
    refine⟨_,rfl,?_,HE2.o⟩
    constructor
    ·intro _;exact List.any_eq_true.2 ⟨x,ilm HX.o,HQ.o⟩
    ·intro _;omega
  ·have HE:=hd hE;clear hE;go_wp2_with fail
   go_ret
   refine⟨_,rfl,?_,HE.o⟩
   constructor
   ·intro h0;omega
   ·intro hm;obtain⟨f,hf,hq⟩:=List.any_eq_true.1 hm;obtain⟨i,hi⟩:=List.getElem?_of_mem hf;have hil:=(ils hi).1;have:=hn.o i f (by omega) hi;rw[hq] at this;cases this
theorem Rc (p:Int->Bool)(hF:∀x W,Calls prog 71 #[.int .i64 x] W (fun e w'=>e=.returned (.bool (p x))/\Ext [] W w'))(b o cap:Nat)(xs:List Int)(w:World)(h:Ek w b o xs)(hl:xs.length<=10000000)(hb:b<w.heap.size) :
  Calls prog 30 #[.slice (some ⟨b,o,none⟩) xs.length cap,.func (.func 71) #[] #[]] w fun e w'=>e=.returned (.bool (xs.any p))/\Ext [] w w':=by
 go_enter func30,ntmps30
 go_wp2_with fail
 refine(Xe p hF b o cap xs w h hl hb).mono ?_
 rintro e w' ⟨r,rfl,hr,hE⟩;have HR:=hd hr;have HE:=hd hE;clear hr hE;go_wp2_with fail
 go_ret
 exact⟨Ay (by rw[Bool.eq_iff_iff];simp only[decide_eq_true_eq];exact HR.o),HE.o⟩
set_option maxRecDepth 4000
theorem Xf (x:Int)(w:World):Calls prog 71 #[x] w fun e w'=>e=.returned (.bool (!inR x (-2147483648) 2147483647))/\Ext [] w w':=by
 go_enter func71,ntmps71
 go_wp2_with fail
 refine(Qr _ _).mono ?_
 rintro e w' ⟨rfl,rfl⟩;go_wp2_with fail
 go_ret
 exact⟨rfl,er⟩
def mS:Mc:=⟨8,2,256,2,1⟩
theorem Ta {P:Program}(w:World)(dT sT ty elem:TypeId)(size g o dLen dCap:Nat)(a:Addr)(sLen sCap:Nat)(cur:Array Value)(t:TypeId)(cs:List Value)
  (hu:P.underlying dT=some (.slice elem)) (hs:(P.info? elem).map (·.size)=some size)
  (hg:w.heap[g]? = some (.cells cur t (0,0))) (hn:cs.length=Nat.min sLen dLen*size)
  (hsrc:∀j v,cs[j]? = some v->w.cell? (a.add j)=some v) (hfit:o+cs.length<=cur.size) (h1:∀v∈cs,v.oneCell'=true) :
  (Builtin.copy_ #[dT,sT] ty #[.slice (some ⟨g,o,none⟩) dLen dCap,.slice (some a) sLen sCap]).run P w =
   .ok (goInt (Nat.min sLen dLen)) (w.setRow g (cur.toList.take o ++ cs ++ cur.toList.drop (o+cs.length)).toArray):=by
 have hl:=run_loadCells_list (P:=P) w a cs hsrc;have hst:=run_storeCells_at P g o t cs 0 cur w hg (by simpa using hfit) h1;cases hq:P.info? elem with
 | none=>simp[hq] at hs
 | some i=>
  have hi:i.size=size:=by simpa[hq] using hs
  simp[Builtin.copy_,run_underlying hu,Builtin.lenOf,Builtin.firstCells,sizeOf,typeInfo,hq,hi,<-hn,hl,hst]
theorem Hn (l:List Ins)(k:Nat):(codeCells l).take (k*9)=codeCells (l.take k):=by
 induction l generalizing k with
 | nil=>simp[codeCells]
 | cons x l ih=>
  cases k with
  | zero=>simp[codeCells]
  | succ k=>
   have hx:x.cells.length=9:=rfl;have e:codeCells (x :: l)=x.cells ++ codeCells l:=rfl;rw[e,List.take_append,List.take_of_length_le (by rw[hx];omega),hx,show(k+1)*9-9=k*9 by omega,ih k];rfl
theorem Ho (l:List Ins)(k:Nat):(codeCells l).drop (k*9)=codeCells (l.drop k):=by
 induction l generalizing k with
 | nil=>simp[codeCells]
 | cons x l ih=>
  cases k with
  | zero=>simp[codeCells]
  | succ k=>
   have hx:x.cells.length=9:=rfl;have e:codeCells (x :: l)=x.cells ++ codeCells l:=rfl;rw[e,List.drop_append,List.drop_of_length_le (by rw[hx];omega),hx,show(k+1)*9-9=k*9 by omega,ih k];rfl
theorem Cb (a b:List Ins):codeCells (a ++ b)=codeCells a ++ codeCells b:=by simp[codeCells]
theorem Jc (l:List Ins):∀u∈codeCells l,u.oneCell'=true:=by
 intro u hu;obtain⟨x,_,hx⟩:=List.mem_flatMap.1 hu;simp[Ins.cells] at hx;rcases hx with rfl|rfl|rfl|rfl|rfl|rfl|rfl|rfl|rfl<;>rfl
def Df (w:World)(b n:Nat):Prop:=∃xs:List Ins,xs.length=n/\Blk w b 76 (codeCells xs).toArray
theorem Mm {w:World}{b n o k c1 c2 b2 d:Nat}(h:Df w b n)(ys:List Ins)(hys:ys.length=k)(hsrc:∀j v,(codeCells ys)[j]? = some v->w.cell? ⟨b2,d+j,none⟩=some v)(ty:TypeId)(dLen sLen:Nat)(hk:Nat.min sLen dLen=k)(hfit:o+k<=n) :
  ∃w',(Builtin.copy_ #[28,28] ty #[.slice (some ⟨b,o*9,none⟩) dLen c1,.slice (some ⟨b2,d,none⟩) sLen c2]).run prog w=.ok (.int .i64 k) w'/\Df w' b n/\Ext [b] w w':=by
 obtain⟨xs,hx,hB⟩:=h;refine⟨_,Ta (P:=prog) w _ _ ty 76 9 b (o*9) dLen c1 ⟨b2,d,none⟩ sLen c2 _ 76 (codeCells ys) underlying28 (by kernel_rfl) hB (by rw[Bg,hys,hk]) (fun j v hv=>by rw[Addr.add_mk];exact hsrc j v hv) (by simp[Bg];omega) (Jc ys) |>.trans (by rw[hk];rfl),?_,?_⟩
 ·refine⟨xs.take o ++ ys ++ xs.drop (o+k),by simp;omega,?_⟩
  unfold Blk;rw[setRow_heap w b _ _ _ _ hB];congr 2
  rw[Cb,Cb,<-Hn,<-Ho];simp[Bg,hys,Nat.add_mul]
 ·exact⟨rfl,rfl,rfl,by simp[World.setRow],fun i _ hi=>setRow_other w b i _ (by simpa using hi)⟩
theorem Df.lt {w:World}{b n:Nat}(h:Df w b n):b<w.heap.size:=by obtain⟨xs,_,hB⟩:=h;exact hB.lt
end Go.Proofs.YtkgmhggliifkjaaGreat
