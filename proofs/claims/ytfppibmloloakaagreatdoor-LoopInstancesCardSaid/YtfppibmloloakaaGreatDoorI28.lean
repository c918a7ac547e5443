import Derived.Test.YtfppibmloloakaaGreatDoorI03
import Derived.Maps.OwnOps
import Derived.Maps.OwnSet
import Derived.Maps.Views
namespace Go.Proofs.YtfppibmloloakaaGreatDoor
open Go.RowKit Go.Proofs.Tryz
set_option linter.all false
def Oi (s:ByteArray):Lit:=.string s.data.toList
theorem Dh {a b:ByteArray}:Oi a=Oi b ↔ eqS a b=true:=by
 rw[Hq,ByteArray.toList_eq,ByteArray.toList_eq];unfold Oi;constructor
 ·intro h;injection h
 ·intro h;rw[h]
theorem Ki:Maps.Keyed prog 9:=Maps.string_keyed underlying9
theorem Wg {n:Nat}(h:n<=1000000):n<maxLen:=Nat.lt_of_le_of_lt h (by decide)
theorem Qc {s:ByteArray}(h:s.size<=1000000):keyOf prog 9 (.string s)=some (Oi s):=by
 have h1:s.size<=maxLen:=Nat.le_of_lt (Wg h);simp[keyOf,underlying9,mapKey,Oi,h1]
def Ed (env:Env)(s:ByteArray):Bool:=env.any fun p=>eqS p.1 s
def Ci (w:World)(b:Nat)(env:Env):Prop:=
 ∃D:DataW Unit,w.ownsMap prog 9 (plainElem prog 3) b env.length D/\Maps.size D=env.length/\(∀s,Maps.has D (Oi s)=Ed env s)/\∀s,D.atKey (Oi s) (.lit (.int .i64 0))=.lit (.int .i64 (lk env s))
theorem Hr {P:Program}{k:TypeId}{R:Value->Option (DataW Unit×List MemPlace)}{w:World}{b n m:Nat}{D:DataW Unit}(h:w.ownsMap P k R b n D)(hm:Maps.size D<=m):w.ownsMap P k R b m D:=by
 obtain⟨es,a1,hb,F,hs,rfl⟩:=h;refine⟨es,a1,hb,F,?_,rfl⟩
 rw[Maps.size_eq,length_sorted] at hm;simpa using hm
section
variable {w w':World} {b:Nat} {env:Env} {nm s:ByteArray} {x y:Int}
theorem Hn:Ed (env ++ [(nm,x)]) s=(Ed env s||eqS nm s):=by simp[Ed]
theorem Jw (h:eqS nm s=true):Ed env s=Ed env nm:=by
 unfold Ed;congr 1
 funext p
 rw[Bool.eq_iff_iff];exact⟨fun k=>Km k (by rw[Fv];exact h),fun k=>Km k h⟩
theorem Tp (h:Ed env s=false):lk env s=0:=by
 unfold lk
 have:env.find? (fun p=>eqS p.1 s)=none:=by
  rw[List.find?_eq_none];intro p hp;unfold Ed at h;rw[List.any_eq_false] at h;exact h p hp
 rw[this];rfl
theorem Ln:lk (env ++ [(nm,x)]) s=if Ed env s then lk env s else if eqS nm s then x else 0:=by
 unfold lk Ed;rw[List.find?_append];cases h:env.find? (fun p=>eqS p.1 s) with
 | none=>
  have:env.any (fun p=>eqS p.1 s)=false:=by
   rw[List.any_eq_false];intro p hp;exact List.find?_eq_none.1 h p hp
  rw[this];by_cases hn:eqS nm s=true
  ·simp[hn]
  ·simp[hn]
 | some p=>
  have:env.any (fun p=>eqS p.1 s)=true:=List.any_eq_true.2 ⟨p,List.mem_of_find?_eq_some h,by simpa using List.find?_some (p:=fun p:ByteArray×Int=>eqS p.1 s) h⟩;rw[this];rfl
theorem Ci.made (w:World):Ci (w.alloc (.map #[] 0)) w.heap.size []:=⟨_,World.ownsMap_made _ _ _ _,rfl,fun s=>rfl,fun s=>rfl⟩
theorem Ci.lt (h:Ci w b env):b<w.heap.size:=by obtain⟨D,h,_⟩:=h;exact h.lt
theorem Ci.ext {S:List Nat}(h:Ci w b env)(hE:Ext S w w')(hb:b∉S):Ci w' b env:=by
 have a2:=h.lt;obtain⟨D,⟨es,a1,h1,h2⟩,h3⟩:=h;exact⟨D,⟨es,a1,(hE.block b a2 hb).trans h1,h2⟩,h3⟩
theorem Ci.apart {g:Nat}{t:TypeId}{C:Array Value}(h:Ci w b env)(k:Blk w g t C):b≠g:=fun e=>by
 obtain⟨D,⟨es,a1,h1,_⟩,_⟩:=h;subst e;unfold Blk at k;rw[h1] at k;cases k
theorem Ci.look (h:Ci w b env)(hs:s.size<=1000000):(Instr.lookup 85 (.map (some b)) (.string s) false).run prog w=.ok (.int .i64 (lk env s)) w:=by
 obtain⟨D,h1,h2,h3,h4⟩:=h;obtain⟨c,hr,a1,_⟩:=h1.lookup_int (t:=85) Ki underlying85 underlying3 (by kernel_rfl) (Qc hs);rw[h4 s] at a1;cases a1
 exact hr
theorem wfS {a:Int}(h : -9223372036854775808<=a/\a<=9223372036854775807):(Lit.int .i64 a).wf=true:=by
 have h1:IntKind.i64.min = -9223372036854775808:=by decide
 have h2:IntKind.i64.max=9223372036854775807:=by decide
 simp[Lit.wf,h1,h2,h]
theorem Ci.put_ (D:DataW Unit)(env':Env)(h1:w.ownsMap prog 9 (plainElem prog 3) b env'.length D)(hs:nm.size<=1000000)(hx : -9223372036854775808<=x/\x<=9223372036854775807)(hl:env'.length<=1000) :
  ∃w' n,(Instr.mapUpdate 85 (.map (some b)) (.string nm) (.int .i64 x)).run prog w=.ok () w'/\w'.ownsMap prog 9 (plainElem prog 3) b n (D.put (Oi nm) (.lit (.int .i64 x)))/\Ext [b] w w':=by
 obtain⟨w',hr,h4,h5⟩:=h1.update (t:=85) Ki underlying85 (Wg (by omega)) (Qc hs) (plainElem_int underlying3 (wfS hx));exact⟨w',_,hr,h4,(jF [b] w).grown h5 (fun k hk=>.inl (by cases hk;simp))⟩
theorem Acq (nm:ByteArray)(hs:nm.size<=1000000):WideAt.IsKeyLit (Oi nm):=Ki.key (Qc hs)
theorem Ci.storeNew (h:Ci w b env)(hno:Ed env nm=false)(hs:nm.size<=1000000)(hx : -9223372036854775808<=x/\x<=9223372036854775807)(hl:env.length<=900) :
  ∃w',(Instr.mapUpdate 85 (.map (some b)) (.string nm) (.int .i64 x)).run prog w=.ok () w'/\Ci w' b (env ++ [(nm,x)])/\Ext [b] w w':=by
 obtain⟨D,h1,h2,h3,h4⟩:=h;obtain⟨w',n,hr,ho,hE⟩:=Ci.put_ (nm:=nm) (x:=x) D env h1 hs hx (by omega);have hk:=Acq nm hs;have a1:=Maps.size_put (k:=Oi nm) (h1.tidy Ki) (.lit (.int .i64 x));rw[h3,hno,ijn (by simp),h2] at a1;refine⟨w',hr,⟨_,Hr ho (by rw[a1];simp),by rw[a1];simp,fun s=>?_,fun s=>?_⟩,hE⟩
 ·rw[Hn];by_cases he:eqS nm s=true
  ·rw[he,Bool.or_true,<-Dh.2 he];exact Maps.has_put_same h1.isMap hk _
  ·rw[Maps.has_put_other (fun hh=>he (Dh.1 hh.symm)),h3];simp[he]
 ·rw[Ln];by_cases he:eqS nm s=true
  ·rw[Jw he,hno,ijn (by simp),ijp he,<-Dh.2 he];exact Maps.atKey_put_same h1.isMap hk _ _
  ·rw[Maps.atKey_put_other (fun hh=>he (Dh.1 hh.symm)),h4,ijn he];cases hh:Ed env s
   ·rw[ijn (by simp),Tp hh]
   ·rw[ijp rfl]
theorem Ci.storeLast (h:Ci w b (env ++ [(nm,y)]))(hno:Ed env nm=false)(hs:nm.size<=1000000)(hx : -9223372036854775808<=x/\x<=9223372036854775807)(hl:env.length<=900) :
  ∃w',(Instr.mapUpdate 85 (.map (some b)) (.string nm) (.int .i64 x)).run prog w=.ok () w'/\Ci w' b (env ++ [(nm,x)])/\Ext [b] w w':=by
 obtain⟨D,h1,h2,h3,h4⟩:=h;obtain⟨w',n,hr,ho,hE⟩:=Ci.put_ (nm:=nm) (x:=x) D (env ++ [(nm,y)]) h1 hs hx (by simp;omega);have hk:=Acq nm hs;have a1:=Maps.size_put (k:=Oi nm) (h1.tidy Ki) (.lit (.int .i64 x));rw[h3,Hn,Om,Bool.or_true,ijp rfl,h2] at a1;refine⟨w',hr,⟨_,Hr ho (by rw[a1];simp),by rw[a1];simp,fun s=>?_,fun s=>?_⟩,hE⟩
 ·rw[Hn];by_cases he:eqS nm s=true
  ·rw[he,Bool.or_true,<-Dh.2 he];exact Maps.has_put_same h1.isMap hk _
  ·rw[Maps.has_put_other (fun hh=>he (Dh.1 hh.symm)),h3,Hn]
 ·rw[Ln];by_cases he:eqS nm s=true
  ·rw[Jw he,hno,ijn (by simp),ijp he,<-Dh.2 he];exact Maps.atKey_put_same h1.isMap hk _ _
  ·rw[Maps.atKey_put_other (fun hh=>he (Dh.1 hh.symm)),h4,Ln,ijn he,ijn he]
theorem Ci.dropLast (h:Ci w b (env ++ [(nm,y)]))(hno:Ed env nm=false)(hs:nm.size<=1000000)(ty:TypeId) :
  ∃w',(Builtin.delete_ #[85,9] ty #[.map (some b),.string nm]).run prog w=.ok (.tuple #[]) w'/\Ci w' b env/\Ext [b] w w':=by
 obtain⟨D,h1,h2,h3,h4⟩:=h;obtain⟨w',hr,ho,h5⟩:=h1.drop (t:=85) Ki underlying85 (Qc hs) ty;have a1:=Maps.size_del (k:=Oi nm) (h1.tidy Ki);rw[h3,Hn,Om,Bool.or_true,ijp rfl,h2,jG] at a1;have hsz':Maps.size (D.del (Oi nm))=env.length:=by simp at a1;omega
 refine⟨w',hr,⟨_,Hr ho (by rw[hsz'];exact jD _),hsz',fun s=>?_,fun s=>?_⟩,(jF [b] w).grown h5.grown (fun k hk=>.inl (by cases hk;simp))⟩
 ·by_cases he:eqS nm s=true
  ·rw[Jw he,hno,<-Dh.2 he];exact Maps.has_del_same
  ·rw[Maps.has_del_other (fun hh=>he (Dh.1 hh.symm)),h3,Hn];simp[he]
 ·by_cases he:eqS nm s=true
  ·rw[Tp (by rw[Jw he];exact hno),<-Dh.2 he];exact Maps.atKey_del_same _
  ·rw[Maps.atKey_del_other (fun hh=>he (Dh.1 hh.symm)),h4,Ln,ijn he];cases hh:Ed env s
   ·rw[ijn (by simp),Tp hh]
   ·rw[ijp rfl]
theorem Ci.dropNone (h:Ci w b env)(hno:Ed env nm=false)(hs:nm.size<=1000000)(ty:TypeId) :
  ∃w',(Builtin.delete_ #[85,9] ty #[.map (some b),.string nm]).run prog w=.ok (.tuple #[]) w'/\Ci w' b env/\Ext [b] w w':=by
 obtain⟨D,h1,h2,h3,h4⟩:=h;obtain⟨w',hr,ho,h5⟩:=h1.drop (t:=85) Ki underlying85 (Qc hs) ty;rw[Maps.del_of_not_has (by rw[h3];exact hno)] at ho;exact⟨w',hr,⟨_,ho,h2,h3,h4⟩,(jF [b] w).grown h5.grown (fun k hk=>.inl (by cases hk;simp))⟩
def Aah (env:Env):Option Int->ByteArray->Env|none,_=>env|some y,nm=>env ++ [(nm,y)]
theorem Ci.store (o:Option Int)(h:Ci w b (Aah env o nm))(hno:Ed env nm=false)(hs:nm.size<=1000000)(hx : -9223372036854775808<=x/\x<=9223372036854775807)(hl:env.length<=900) :
  ∃w',(Instr.mapUpdate 85 (.map (some b)) (.string nm) (.int .i64 x)).run prog w=.ok () w'/\Ci w' b (env ++ [(nm,x)])/\Ext [b] w w':=by
 cases o with
 | none=>exact Ci.storeNew h hno hs hx hl
 | some y=>exact Ci.storeLast h hno hs hx hl
theorem Ci.drop (o:Option Int)(h:Ci w b (Aah env o nm))(hno:Ed env nm=false)(hs:nm.size<=1000000)(ty:TypeId) :
  ∃w',(Builtin.delete_ #[85,9] ty #[.map (some b),.string nm]).run prog w=.ok (.tuple #[]) w'/\Ci w' b env/\Ext [b] w w':=by
 cases o with
 | none=>exact Ci.dropNone h hno hs ty
 | some y=>exact Ci.dropLast h hno hs ty
end
section
variable (w:World) {ops:Array Oper} {rest:List Oper} {o:Oper} {a:Act} {Q:Exit->Act->World->Prop}
theorem Jx (hg:o.guard=none)(m x v:Operand)(hop:o.op=Op.mapUpdate 85 m x v)(b:Nat)(env:Env)(q:Option Int)(nm:ByteArray)(y:Int)(hm:a.eval m=.map (some b))(h:Ci w b (Aah env q nm))(hx:a.eval x=.string nm)(hv:a.eval v=.int .i64 y)
  (hno:Ed env nm=false) (hs:nm.size<=1000000) (hy : -9223372036854775808<=y/\y<=9223372036854775807) (hl:env.length<=900)
  (hK:∀w',Ci w' b (env ++ [(nm,y)])->Ext [b] w w'->wpList prog ops Q rest (a.put o.dst undef) w'):wpList prog ops Q (o :: rest) a w:=by
 refine wpList_plain hg fun K' hK'=>?_
 obtain⟨w',a1,r1,r2⟩:=h.store q hno hs hy hl;unfold Oper.wp;simp[execOp,hop,hm,hx,hv,a1,Result.andThen];exact hK' _ _ (hK w' r1 r2)
theorem La (hg:o.guard=none)(m x:Operand)(hop:o.op=Op.call {callee:=Callee.builtin Builtin.delete,args:=#[m,x],argTypes:=#[85,9] })(b:Nat)(env:Env)(q:Option Int)(nm:ByteArray)(hm:a.eval m=.map (some b))(h:Ci w b (Aah env q nm))(hx:a.eval x=.string nm)
  (hno:Ed env nm=false) (hs:nm.size<=1000000) (hK:∀w',Ci w' b env->Ext [b] w w'->wpList prog ops Q rest (a.put o.dst (.tuple #[])) w'):wpList prog ops Q (o :: rest) a w:=by
 refine wpList_plain hg fun K' hK'=>?_
 obtain⟨w',a1,r1,r2⟩:=h.drop q hno hs o.type;unfold Oper.wp;simp[execOp,hop,resolve,invoke,builtin,hm,hx,a1,Result.andThen];exact hK' _ _ (hK w' r1 r2)
end
end Go.Proofs.YtfppibmloloakaaGreatDoor
