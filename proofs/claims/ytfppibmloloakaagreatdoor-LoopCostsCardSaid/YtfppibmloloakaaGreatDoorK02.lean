import Derived.Test.YtfppibmloloakaaGreatDoorK01
import Derived.Laws.Rows
import Derived.Laws.Tables
namespace Go.Proofs.YtfppibmloloakaaGreatDoor
open Go.RowKit Go.Proofs.Tryz
set_option linter.all false
def Ak {α:Type}(w:World)(A:Option Addr)(k:Nat)(cs:α->List Value)(l:List α):Prop:=
 l.length<=1000000/\(l=[]\/∃b:Nat,A=some b/\∀(i:Nat) (x:α),l[i]? = some x->∀(j:Nat) (v:Value),(cs x)[j]? = some v->w.cell? ⟨b,i*k+j,none⟩=some v)
section
variable {α:Type} {w w':World} {A:Option Addr} {k:Nat} {cs:α->List Value} {l:List α}
theorem Ak.ext (h:Ak w A k cs l){S:List Nat}(hE:Ext S w w')(hS:∀x∈S,∀b o,A=some ⟨b,o,none⟩->x≠b):Ak w' A k cs l:=by
 obtain⟨h0,h⟩:=h;refine⟨h0,?_⟩
 rcases h with h|⟨b,rfl,hc⟩
 ·exact .inl h
 ·exact .inr ⟨b,rfl,fun i x hx j v hv=>hE.held (hc i x hx j v hv) fun hm=>hS _ hm b 0 rfl rfl⟩
theorem Ak.keep (h:Ak w A k cs l)(hE:Ext [] w w'):Ak w' A k cs l:=h.ext hE (by simp)
theorem Ak.at (h:Ak w A k cs l){i:Nat}(hi:i<l.length):∃b x,A=some ⟨b,0,none⟩/\l[i]? = some x/\∀(j:Nat) (v:Value),(cs x)[j]? = some v->w.cell? ⟨b,i*k+j,none⟩=some v:=by
 obtain⟨h0,h⟩:=h;rcases h with h|⟨b,rfl,hc⟩
 ·rw[h] at hi;simp at hi
 ·exact⟨b,_,rfl,jJ hi,hc i _ (jJ hi)⟩
theorem Ak.nil (w:World)(A:Option Addr)(k:Nat)(cs:α->List Value):Ak w A k cs []:=⟨by simp,.inl rfl⟩
end
def tmC (t:ByteArray×Int):List Value:=[.string t.1,.int .i64 t.2]
def afC (a:Af):List Value:=[.int .i64 a.base,.slice a.A a.ts.length a.cap]
def afV (a:Af):Value:=.agg #[.int .i64 a.base,.slice a.A a.ts.length a.cap]
def exH (h:EH)(n:Nat):List Value:=[.int .i64 h.k,.int .i64 h.op,.int .i64 h.lo,.int .i64 h.hi,.int .i64 h.n,.int .i64 h.m,.int .i64 h.buf,.int .i64 h.at_.base,.slice h.at_.A h.at_.ts.length h.at_.cap,.slice h.A n h.cap]
def exC:Ex->List Value|.mk h ks=>exH h ks.length
def Gt (h:EH)(n:Nat):Value:=.agg #[.int .i64 h.k,.int .i64 h.op,.int .i64 h.lo,.int .i64 h.hi,.int .i64 h.n,.int .i64 h.m,.int .i64 h.buf,.int .i64 h.at_.base,.slice h.at_.A h.at_.ts.length h.at_.cap,.slice h.A n h.cap]
def exV:Ex->Value|.mk h ks=>Gt h ks.length
def Dd (h:EH)(n:Nat):Array Value:=#[.int .i64 h.k,.int .i64 h.op,.int .i64 h.lo,.int .i64 h.hi,.int .i64 h.n,.int .i64 h.m,.int .i64 h.buf,.int .i64 h.at_.base,.slice h.at_.A h.at_.ts.length h.at_.cap,.slice h.A n h.cap]
def An (e:Ex):Array Value:=#[.int .i64 e.h.k,.int .i64 e.h.op,.int .i64 e.h.lo,.int .i64 e.h.hi,.int .i64 e.h.n,.int .i64 e.h.m,.int .i64 e.h.buf,.int .i64 e.h.at_.base,.slice e.h.at_.A e.h.at_.ts.length e.h.at_.cap,.slice e.h.A e.ks.length e.h.cap]
theorem Cq (e:Ex):exV e=.agg (An e):=by cases e;rfl
theorem Ey (e:Ex):exC e=(An e).toList:=by cases e;rfl
def stK (h:SH)(n:Nat)(x:EH)(m:Nat):List Value:=[.int .i64 h.k,.string h.var,.int .i64 h.lo,.int .i64 h.hi,.int .i64 h.step,.bool h.vec,.slice h.cA h.conds.length h.cc,.slice h.A n h.cap,.int .i64 h.buf,.int .i64 h.at_.base,.slice h.at_.A h.at_.ts.length h.at_.cap,
 .int .i64 x.k,.int .i64 x.op,.int .i64 x.lo,.int .i64 x.hi,.int .i64 x.n,.int .i64 x.m,.int .i64 x.buf,.int .i64 x.at_.base,.slice x.at_.A x.at_.ts.length x.at_.cap,.slice x.A m x.cap]
def stH (h:SH)(n:Nat):List Value:=stK h n h.val.h h.val.ks.length
def stC:St->List Value|.mk h b=>stH h b.length
def Ai (h:SH)(n:Nat)(x:EH)(m:Nat):Array Value:=#[.int .i64 h.k,.string h.var,.int .i64 h.lo,.int .i64 h.hi,.int .i64 h.step,.bool h.vec,.slice h.cA h.conds.length h.cc,.slice h.A n h.cap,.int .i64 h.buf,.int .i64 h.at_.base,.slice h.at_.A h.at_.ts.length h.at_.cap,
 .int .i64 x.k,.int .i64 x.op,.int .i64 x.lo,.int .i64 x.hi,.int .i64 x.n,.int .i64 x.m,.int .i64 x.buf,.int .i64 x.at_.base,.slice x.at_.A x.at_.ts.length x.at_.cap,.slice x.A m x.cap]
def Ez (h:SH)(n:Nat):Value:=.agg (Ai h n h.val.h h.val.ks.length)
def stV:St->Value|.mk h b=>Ez h b.length
def bfC (b:Bf):List Value:=[.string b.name,.int .i64 b.size,.bool b.set,.slice b.A b.data.length b.cap]
def bfV (b:Bf):Value:=.agg #[.string b.name,.int .i64 b.size,.bool b.set,.slice b.A b.data.length b.cap]
def inC (x:Int):List Value:=[.int .i64 x]
def sC (s:ByteArray):List Value:=[.string s]
def Jn (w:World)(a:Af):Prop:=Ak w a.A 2 tmC a.ts
inductive Gu (w:World):Ex->Prop
 | mk (h:EH) (ks:List Ex) (ha:Jn w h.at_) (hk:Ak w h.A 10 exC ks) (hs:∀e∈ks,Gu w e):Gu w (.mk h ks)
inductive Gc (w:World):St->Prop
 | mk (h:SH) (b:List St) (hc:Ak w h.cA 2 afC h.conds) (hcs:∀a∈h.conds,Jn w a) (ha:Jn w h.at_) (hv:Gu w h.val) (hp:Al h.val<=1000000) (hz:h.var.size<=1000000) (hb:Ak w h.A 21 stC b) (hs:∀s∈b,Gc w s):Gc w (.mk h b)
def Aab (w:World)(b:Bf):Prop:=Ak w b.A 1 inC b.data/\b.name.size<=1000000
theorem Jn.keep {w w':World}{a:Af}(h:Jn w a)(hE:Ext [] w w'):Jn w' a:=Ak.keep h hE
theorem Gu.keep {w w':World}(hE:Ext [] w w'):∀{e:Ex},Gu w e->Gu w' e:=fun {e} h=>by
 induction h with
 | mk h ks ha hk hs ih=>exact .mk h ks (ha.keep hE) (hk.keep hE) ih
theorem Gc.keep {w w':World}(hE:Ext [] w w'):∀{s:St},Gc w s->Gc w' s:=fun {s} h=>by
 induction h with
 | mk h b hc hcs ha hv hp hz hb hs ih=>exact .mk h b (hc.keep hE) (fun a h=>(hcs a h).keep hE) (ha.keep hE) (hv.keep hE) hp hz (hb.keep hE) ih
theorem Aab.keep {w w':World}{b:Bf}(h:Aab w b)(hE:Ext [] w w'):Aab w' b:=⟨Ak.keep h.1 hE,h.2⟩
theorem Gc.all {w:World}{h:SH}{b:List St}(k:Gc w (.mk h b)):Ak w h.cA 2 afC h.conds/\(∀a∈h.conds,Jn w a)/\Jn w h.at_/\Gu w h.val/\Al h.val<=1000000/\h.var.size<=1000000/\Ak w h.A 21 stC b/\∀s∈b,Gc w s:=by
 cases k;exact⟨by assumption,by assumption,by assumption,by assumption,by assumption,by assumption,by assumption,by assumption⟩
theorem Gu.at {w:World}{h:EH}{ks:List Ex}(k:Gu w (.mk h ks)):Jn w h.at_:=by cases k;assumption
theorem Gu.row {w:World}{h:EH}{ks:List Ex}(k:Gu w (.mk h ks)):Ak w h.A 10 exC ks:=by cases k;assumption
theorem Gu.kid {w:World}{h:EH}{ks:List Ex}(k:Gu w (.mk h ks)){e:Ex}(he:e∈ks):Gu w e:=by cases k with|mk _ _ _ _ hs=>exact hs e he
theorem Gv {P:Program}(w:World)(ad:Addr)(ty:TypeId)(arr:Array Value)(d:TypeDesc)(hu:P.underlying ty=some d)(hd:(match d with|.struct _|.array _ _=>true|_=>false)=true)
  (hi:(P.info? ty).map (·.size)=some arr.size) (hc:∀(j:Nat) (v:Value),arr.toList[j]? = some v->w.cell? (ad.add j)=some v):(loadVar ty ad).run P w=.ok (.agg arr) w:=by
 have hl:(loadCells ad arr.toList.length).run P w=.ok arr.toList.toArray w:=run_loadCells_list (P:=P) w ad arr.toList hc;cases hq:P.info? ty with
 | none=>simp[hq] at hi
 | some i=>
  have hs:i.size=arr.size:=by simpa[hq] using hi
  have a1:(isAgg ty).run P w=.ok true w:=by
   unfold isAgg;rw[Sem.run_bind,run_underlying hu w];cases d<;>simp_all
  simp only[Array.length_toList,Array.toArray_toList] at hl;simp[loadVar,Sem.run_bind,a1,sizeOf,typeInfo,hq,hs,hl]
theorem Ac {P:Program}{ops:Array Oper}{rest:List Oper}{o:Oper}{a:Act}{w:World}{Q:Exit->Act->World->Prop}(hgd:o.guard=none)(ty:TypeId)(x:Operand)(ho:o.op=.load ty x)
  (b n:Nat) (hx:a.eval x=.pointer (some ⟨b,n,none⟩)) (arr:Array Value) (hc:∀(j:Nat) (v:Value),arr.toList[j]? = some v->w.cell? ⟨b,n+j,none⟩=some v) (d:TypeDesc)
  (hu:P.underlying ty=some d) (hd:(match d with|.struct _|.array _ _=>true|_=>false)=true) (hi:(P.info? ty).map (·.size)=some arr.size)
  (h:wpList P ops Q rest (a.put o.dst (.agg arr)) w):wpList P ops Q (o :: rest) a w:=
 wpList_plain hgd fun _ hK=>by
  unfold Oper.wp execOp;simp only[ho,hx,Instr.loadAt,Instr.sureAddr,Sem.run_bind,Sem.run_pure,Result.andThen_ok,Gv w ⟨b,n,none⟩ ty arr d hu hd hi (fun j v hv=>by rw[Addr.add_mk];exact hc j v hv)];exact hK _ _ h
theorem Nx (w:World)(t:TypeId)(old cs:Array Value):(w.alloc (.cells old t)).setRow w.heap.size cs=w.alloc (.cells cs t):=by
 unfold World.setRow World.alloc;congr 1
 apply Array.ext_getElem?
 intro i;simp only[Array.getElem?_modify,Array.getElem?_push];by_cases h:i=w.heap.size
 ·subst h;simp
 ·simp[h,Ne.symm h]
theorem Ts {P:Program}{ops:Array Oper}{rest:List Oper}{o:Oper}{a:Act}{w:World}{Q:Exit->Act->World->Prop}(hw:Region.wanted o (yielded ops a.tmps)=true)
  (h:∀K:Act->World->Prop,(∀a w,wpList P ops Q rest a w->K a w)->o.wp P a w K Q):wpList P ops Q (o :: rest) a w:=
 wpList_step fun K hK=>by rw[ijp hw];exact h K hK
theorem Gd {P:Program}{ops:Array Oper}{rest:List Oper}{o:Oper}{a:Act}{w:World}{Q:Exit->Act->World->Prop}(hw:Region.wanted o (yielded ops a.tmps)=true)(ty:TypeId)(x:Operand)(ho:o.op=.load ty x)
  (b n:Nat) (hx:a.eval x=.pointer (some ⟨b,n,none⟩)) (arr:Array Value) (hc:∀(j:Nat) (v:Value),arr.toList[j]? = some v->w.cell? ⟨b,n+j,none⟩=some v) (d:TypeDesc)
  (hu:P.underlying ty=some d) (hd:(match d with|.struct _|.array _ _=>true|_=>false)=true) (hi:(P.info? ty).map (·.size)=some arr.size)
  (h:wpList P ops Q rest (a.put o.dst (.agg arr)) w):wpList P ops Q (o :: rest) a w:=
 Ts hw fun _ hK=>by
  unfold Oper.wp execOp;simp only[ho,hx,Instr.loadAt,Instr.sureAddr,Sem.run_bind,Sem.run_pure,Result.andThen_ok,Gv w ⟨b,n,none⟩ ty arr d hu hd hi (fun j v hv=>by rw[Addr.add_mk];exact hc j v hv)];exact hK _ _ h
theorem Ax {P:Program}{ops:Array Oper}{rest:List Oper}{o p:Oper}{a:Act}{w:World}{Q:Exit->Act->World->Prop}(hg1:o.guard=none)(hg2:p.guard=none)(ty:TypeId)(x y:Operand)(ho:o.op=.alloc ty)(hp:p.op=.store ty x y)
  (z:Array Value) (hz:(zeroValue ty).run P w=.ok (.agg z) w) (arr:Array Value) (hx:(a.put o.dst (.pointer (some w.heap.size))).eval x=.pointer (some w.heap.size)) (hy:(a.put o.dst (.pointer (some w.heap.size))).eval y=.agg arr)
  (hi:(P.info? ty).map (·.size)=some arr.size) (hs:z.size=arr.size) (h1:arr.all (·.oneCell')=true)
  (h:wpList P ops Q rest ((a.put o.dst (.pointer (some w.heap.size))).put p.dst undef) (w.alloc (.cells arr ty))):wpList P ops Q (o :: p :: rest) a w:=
 wpList_plain hg1 fun K hK=>by
  have a1:(w.alloc (.cells z ty)).heap[w.heap.size]? = some (.cells z ty (0,0)):=by show(w.heap.push _)[w.heap.size]? = _;simp
  unfold Oper.wp execOp;simp only[ho,Instr.alloc,Sem.run_bind,hz,Result.andThen_ok];simp[newVar,newRow,Value.cells];refine hK _ _ (wpList_plain hg2 fun K' hK'=>?_)
  refine wp_store_row ty x y hp w.heap.size arr hx hy ty z a1 hi hs h1 ?_
  rw[Nx];exact hK' _ _ h
def zSt:Array Value:=#[.int .i64 0,.string ⟨#[]⟩,.int .i64 0,.int .i64 0,.int .i64 0,.bool false,.slice none 0 0,.slice none 0 0,.int .i64 0,.int .i64 0,.slice none 0 0,
 .int .i64 0,.int .i64 0,.int .i64 0,.int .i64 0,.int .i64 0,.int .i64 0,.int .i64 0,.int .i64 0,.slice none 0 0,.slice none 0 0]
def zEx:Array Value:=#[.int .i64 0,.int .i64 0,.int .i64 0,.int .i64 0,.int .i64 0,.int .i64 0,.int .i64 0,.int .i64 0,.slice none 0 0,.slice none 0 0]
theorem Ge (w:World):(zeroValue 43).run prog w=.ok (.agg zSt) w:=by kernel_rfl
theorem Kj (w:World):(zeroValue 41).run prog w=.ok (.agg zEx) w:=by kernel_rfl
theorem Cz (h:SH)(n:Nat)(x:EH)(m:Nat):(Ai h n x m).all (·.oneCell')=true:=by
 simp[Ai];repeat(first|exact rfl|refine⟨rfl,?_⟩)
theorem Fu (e:Ex):(An e).all (·.oneCell')=true:=by
 simp[An];repeat(first|exact rfl|refine⟨rfl,?_⟩)
theorem Blk.wide {w:World}{b:Nat}{t:TypeId}{arr:Array Value}(h:Blk w b t arr):∀(j:Nat) (v:Value),arr.toList[j]? = some v->w.cell? ⟨b,0+j,none⟩=some v:=fun j v hv=>by
 rw[Nat.zero_add,h.cell];simpa using hv
theorem Dv:(prog.info? 43).map (·.size)=some 21:=by kernel_rfl
theorem Ch:(prog.info? 41).map (·.size)=some 10:=by kernel_rfl
end Go.Proofs.YtfppibmloloakaaGreatDoor
