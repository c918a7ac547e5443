import Derived.Test.YtfppibmloloakaaGreatDoorK03
import Derived.Maps.OwnOps
import Derived.Maps.OwnSet
import Derived.Maps.Views
namespace Go.Proofs.YtfppibmloloakaaGreatDoor
open Go.RowKit Go.Proofs.Tryz
set_option linter.all false
def Pe (s:ByteArray):Lit:=.string s.data.toList
theorem Eh {a b:ByteArray}:Pe a=Pe b ↔ eqS a b=true:=by
 rw[Hg,ByteArray.toList_eq,ByteArray.toList_eq];unfold Pe;constructor
 ·intro h;injection h
 ·intro h;rw[h]
theorem Mc:Maps.Keyed prog 9:=Maps.string_keyed underlying9
theorem Vd {n:Nat}(h:n<=1000000):n<maxLen:=Nat.lt_of_le_of_lt h (by decide)
theorem Sk {s:ByteArray}(h:s.size<=1000000):keyOf prog 9 (.string s)=some (Pe s):=by
 have h1:s.size<=maxLen:=Nat.le_of_lt (Vd h);simp[keyOf,underlying9,mapKey,Pe,h1]
def Hb (env:Env)(s:ByteArray):Bool:=env.any fun p=>eqS p.1 s
def Bw (w:World)(b:Nat)(env:Env):Prop:=
 ∃D:DataW Unit,w.ownsMap prog 9 (plainElem prog 3) b env.length D/\Maps.size D=env.length/\(∀s,Maps.has D (Pe s)=Hb env s)/\∀s,D.atKey (Pe s) (.lit (.int .i64 0))=.lit (.int .i64 (lk env s))
theorem Jh {P:Program}{k:TypeId}{R:Value->Option (DataW Unit×List MemPlace)}{w:World}{b n m:Nat}{D:DataW Unit}(h:w.ownsMap P k R b n D)(hm:Maps.size D<=m):w.ownsMap P k R b m D:=by
 obtain⟨es,a1,hb,F,hs,rfl⟩:=h;refine⟨es,a1,hb,F,?_,rfl⟩
 rw[Maps.size_eq,length_sorted] at hm;simpa using hm
section
variable {w w':World} {b:Nat} {env:Env} {nm s:ByteArray} {x y:Int}
theorem Ie:Hb (env ++ [(nm,x)]) s=(Hb env s||eqS nm s):=by simp[Hb]
theorem Qs (h:eqS nm s=true):Hb env s=Hb env nm:=by
 unfold Hb;congr 1
 funext p
 rw[Bool.eq_iff_iff];exact⟨fun k=>Oy k (by rw[Lk];exact h),fun k=>Oy k h⟩
theorem Aa8 (h:Hb env s=false):lk env s=0:=by
 unfold lk
 have:env.find? (fun p=>eqS p.1 s)=none:=by
  rw[List.find?_eq_none];intro p hp;unfold Hb at h;rw[List.any_eq_false] at h;exact h p hp
 rw[this];rfl
theorem Qt:lk (env ++ [(nm,x)]) s=if Hb env s then lk env s else if eqS nm s then x else 0:=by
 unfold lk Hb;rw[List.find?_append];cases h:env.find? (fun p=>eqS p.1 s) with
 | none=>
  have:env.any (fun p=>eqS p.1 s)=false:=by
   rw[List.any_eq_false];intro p hp;exact List.find?_eq_none.1 h p hp
  rw[this];by_cases hn:eqS nm s=true
  ·simp[hn]
  ·simp[hn]
 | some p=>
  have:env.any (fun p=>eqS p.1 s)=true:=List.any_eq_true.2 ⟨p,List.mem_of_find?_eq_some h,by simpa using List.find?_some (p:=fun p:ByteArray×Int=>eqS p.1 s) h⟩;rw[this];rfl
theorem Bw.made (w:World):Bw (w.alloc (.map #[] 0)) w.heap.size []:=⟨_,World.ownsMap_made _ _ _ _,rfl,fun s=>rfl,fun s=>rfl⟩
theorem Bw.lt (h:Bw w b env):b<w.heap.size:=by obtain⟨D,h,_⟩:=h;exact h.lt
theorem Bw.ext {S:List Nat}(h:Bw w b env)(hE:Ext S w w')(hb:b∉S):Bw w' b env:=by
 have a2:=h.lt;obtain⟨D,⟨es,a1,h1,h2⟩,h3⟩:=h;exact⟨D,⟨es,a1,(hE.block b a2 hb).trans h1,h2⟩,h3⟩
theorem Bw.apart {g:Nat}{t:TypeId}{C:Array Value}(h:Bw w b env)(k:Blk w g t C):b≠g:=fun e=>by
 obtain⟨D,⟨es,a1,h1,_⟩,_⟩:=h;subst e;unfold Blk at k;rw[h1] at k;cases k
theorem Bw.look (h:Bw w b env)(hs:s.size<=1000000):(Instr.lookup 85 (.map (some b)) (.string s) false).run prog w=.ok (.int .i64 (lk env s)) w:=by
 obtain⟨D,h1,h2,h3,h4⟩:=h;obtain⟨c,hr,a1,_⟩:=h1.lookup_int (t:=85) Mc underlying85 underlying3 (by kernel_rfl) (Sk hs);rw[h4 s] at a1;cases a1
 exact hr
theorem wfS {a:Int}(h : -9223372036854775808<=a/\a<=9223372036854775807):(Lit.int .i64 a).wf=true:=by
 have h1:IntKind.i64.min = -9223372036854775808:=by decide
 have h2:IntKind.i64.max=9223372036854775807:=by decide
 simp[Lit.wf,h1,h2,h]
theorem Bw.put_ (D:DataW Unit)(env':Env)(h1:w.ownsMap prog 9 (plainElem prog 3) b env'.length D)(hs:nm.size<=1000000)(hx : -9223372036854775808<=x/\x<=9223372036854775807)(hl:env'.length<=1000) :
  ∃w' n,(Instr.mapUpdate 85 (.map (some b)) (.string nm) (.int .i64 x)).run prog w=.ok () w'/\w'.ownsMap prog 9 (plainElem prog 3) b n (D.put (Pe nm) (.lit (.int .i64 x)))/\Ext [b] w w':=by
 obtain⟨w',hr,h4,h5⟩:=h1.update (t:=85) Mc underlying85 (Vd (by omega)) (Sk hs) (plainElem_int underlying3 (wfS hx));exact⟨w',_,hr,h4,(jF [b] w).grown h5 (fun k hk=>.inl (by cases hk;simp))⟩
theorem Agm (nm:ByteArray)(hs:nm.size<=1000000):WideAt.IsKeyLit (Pe nm):=Mc.key (Sk hs)
theorem Bw.storeNew (h:Bw w b env)(hno:Hb env nm=false)(hs:nm.size<=1000000)(hx : -9223372036854775808<=x/\x<=9223372036854775807)(hl:env.length<=900) :
  ∃w',(Instr.mapUpdate 85 (.map (some b)) (.string nm) (.int .i64 x)).run prog w=.ok () w'/\Bw w' b (env ++ [(nm,x)])/\Ext [b] w w':=by
 obtain⟨D,h1,h2,h3,h4⟩:=h;obtain⟨w',n,hr,ho,hE⟩:=Bw.put_ (nm:=nm) (x:=x) D env h1 hs hx (by omega);have hk:=Agm nm hs;have a1:=Maps.size_put (k:=Pe nm) (h1.tidy Mc) (.lit (.int .i64 x));rw[h3,hno,ijn (by simp),h2] at a1;refine⟨w',hr,⟨_,Jh ho (by rw[a1];simp),by rw[a1];simp,fun s=>?_,fun s=>?_⟩,hE⟩
 ·rw[Ie];by_cases he:eqS nm s=true
  ·rw[he,Bool.or_true,<-Eh.2 he];exact Maps.has_put_same h1.isMap hk _
  ·rw[Maps.has_put_other (fun hh=>he (Eh.1 hh.symm)),h3];simp[he]
 ·rw[Qt];by_cases he:eqS nm s=true
  ·rw[Qs he,hno,ijn (by simp),ijp he,<-Eh.2 he];exact Maps.atKey_put_same h1.isMap hk _ _
  ·rw[Maps.atKey_put_other (fun hh=>he (Eh.1 hh.symm)),h4,ijn he];cases hh:Hb env s
   ·rw[ijn (by simp),Aa8 hh]
   ·rw[ijp rfl]
theorem Bw.storeLast (h:Bw w b (env ++ [(nm,y)]))(hno:Hb env nm=false)(hs:nm.size<=1000000)(hx : -9223372036854775808<=x/\x<=9223372036854775807)(hl:env.length<=900) :
  ∃w',(Instr.mapUpdate 85 (.map (some b)) (.string nm) (.int .i64 x)).run prog w=.ok () w'/\Bw w' b (env ++ [(nm,x)])/\Ext [b] w w':=by
 obtain⟨D,h1,h2,h3,h4⟩:=h;obtain⟨w',n,hr,ho,hE⟩:=Bw.put_ (nm:=nm) (x:=x) D (env ++ [(nm,y)]) h1 hs hx (by simp;omega);have hk:=Agm nm hs;have a1:=Maps.size_put (k:=Pe nm) (h1.tidy Mc) (.lit (.int .i64 x));rw[h3,Ie,Xp,Bool.or_true,ijp rfl,h2] at a1;refine⟨w',hr,⟨_,Jh ho (by rw[a1];simp),by rw[a1];simp,fun s=>?_,fun s=>?_⟩,hE⟩
 ·rw[Ie];by_cases he:eqS nm s=true
  ·rw[he,Bool.or_true,<-Eh.2 he];exact Maps.has_put_same h1.isMap hk _
  ·rw[Maps.has_put_other (fun hh=>he (Eh.1 hh.symm)),h3,Ie]
 ·rw[Qt];by_cases he:eqS nm s=true
  ·rw[Qs he,hno,ijn (by simp),ijp he,<-Eh.2 he];exact Maps.atKey_put_same h1.isMap hk _ _
  ·rw[Maps.atKey_put_other (fun hh=>he (Eh.1 hh.symm)),h4,Qt,ijn he,ijn he]
theorem Bw.dropLast (h:Bw w b (env ++ [(nm,y)]))(hno:Hb env nm=false)(hs:nm.size<=1000000)(ty:TypeId) :
  ∃w',(Builtin.delete_ #[85,9] ty #[.map (some b),.string nm]).run prog w=.ok (.tuple #[]) w'/\Bw w' b env/\Ext [b] w w':=by
 obtain⟨D,h1,h2,h3,h4⟩:=h;obtain⟨w',hr,ho,h5⟩:=h1.drop (t:=85) Mc underlying85 (Sk hs) ty;have a1:=Maps.size_del (k:=Pe nm) (h1.tidy Mc);rw[h3,Ie,Xp,Bool.or_true,ijp rfl,h2,jG] at a1;have hsz':Maps.size (D.del (Pe nm))=env.length:=by simp at a1;omega
 refine⟨w',hr,⟨_,Jh ho (by rw[hsz'];exact jD _),hsz',fun s=>?_,fun s=>?_⟩,(jF [b] w).grown h5.grown (fun k hk=>.inl (by cases hk;simp))⟩
 ·by_cases he:eqS nm s=true
  ·rw[Qs he,hno,<-Eh.2 he];exact Maps.has_del_same
  ·rw[Maps.has_del_other (fun hh=>he (Eh.1 hh.symm)),h3,Ie];simp[he]
 ·by_cases he:eqS nm s=true
  ·rw[Aa8 (by rw[Qs he];exact hno),<-Eh.2 he];exact Maps.atKey_del_same _
  ·rw[Maps.atKey_del_other (fun hh=>he (Eh.1 hh.symm)),h4,Qt,ijn he];cases hh:Hb env s
   ·rw[ijn (by simp),Aa8 hh]
   ·rw[ijp rfl]
theorem Bw.dropNone (h:Bw w b env)(hno:Hb env nm=false)(hs:nm.size<=1000000)(ty:TypeId) :
  ∃w',(Builtin.delete_ #[85,9] ty #[.map (some b),.string nm]).run prog w=.ok (.tuple #[]) w'/\Bw w' b env/\Ext [b] w w':=by
 obtain⟨D,h1,h2,h3,h4⟩:=h;obtain⟨w',hr,ho,h5⟩:=h1.drop (t:=85) Mc underlying85 (Sk hs) ty;rw[Maps.del_of_not_has (by rw[h3];exact hno)] at ho;exact⟨w',hr,⟨_,ho,h2,h3,h4⟩,(jF [b] w).grown h5.grown (fun k hk=>.inl (by cases hk;simp))⟩
def Wz (env:Env):Option Int->ByteArray->Env|none,_=>env|some y,nm=>env ++ [(nm,y)]
theorem Bw.store (o:Option Int)(h:Bw w b (Wz env o nm))(hno:Hb env nm=false)(hs:nm.size<=1000000)(hx : -9223372036854775808<=x/\x<=9223372036854775807)(hl:env.length<=900) :
  ∃w',(Instr.mapUpdate 85 (.map (some b)) (.string nm) (.int .i64 x)).run prog w=.ok () w'/\Bw w' b (env ++ [(nm,x)])/\Ext [b] w w':=by
 cases o with
 | none=>exact Bw.storeNew h hno hs hx hl
 | some y=>exact Bw.storeLast h hno hs hx hl
theorem Bw.drop (o:Option Int)(h:Bw w b (Wz env o nm))(hno:Hb env nm=false)(hs:nm.size<=1000000)(ty:TypeId) :
  ∃w',(Builtin.delete_ #[85,9] ty #[.map (some b),.string nm]).run prog w=.ok (.tuple #[]) w'/\Bw w' b env/\Ext [b] w w':=by
 cases o with
 | none=>exact Bw.dropNone h hno hs ty
 | some y=>exact Bw.dropLast h hno hs ty
end
section
variable (w:World) {ops:Array Oper} {rest:List Oper} {o:Oper} {a:Act} {Q:Exit->Act->World->Prop}
theorem Gm (hg:o.guard=none)(m x v:Operand)(hop:o.op=Op.mapUpdate 85 m x v)(b:Nat)(env:Env)(q:Option Int)(nm:ByteArray)(y:Int)(hm:a.eval m=.map (some b))(h:Bw w b (Wz env q nm))(hx:a.eval x=.string nm)(hv:a.eval v=.int .i64 y)
  (hno:Hb env nm=false) (hs:nm.size<=1000000) (hy : -9223372036854775808<=y/\y<=9223372036854775807) (hl:env.length<=900)
  (hK:∀w',Bw w' b (env ++ [(nm,y)])->Ext [b] w w'->wpList prog ops Q rest (a.put o.dst undef) w'):wpList prog ops Q (o :: rest) a w:=by
 refine wpList_plain hg fun K' hK'=>?_
 obtain⟨w',a1,r1,r2⟩:=h.store q hno hs hy hl;unfold Oper.wp;simp[execOp,hop,hm,hx,hv,a1,Result.andThen];exact hK' _ _ (hK w' r1 r2)
theorem Hc (hg:o.guard=none)(m x:Operand)(hop:o.op=Op.call {callee:=Callee.builtin Builtin.delete,args:=#[m,x],argTypes:=#[85,9] })(b:Nat)(env:Env)(q:Option Int)(nm:ByteArray)(hm:a.eval m=.map (some b))(h:Bw w b (Wz env q nm))(hx:a.eval x=.string nm)
  (hno:Hb env nm=false) (hs:nm.size<=1000000) (hK:∀w',Bw w' b env->Ext [b] w w'->wpList prog ops Q rest (a.put o.dst (.tuple #[])) w'):wpList prog ops Q (o :: rest) a w:=by
 refine wpList_plain hg fun K' hK'=>?_
 obtain⟨w',a1,r1,r2⟩:=h.drop q hno hs o.type;unfold Oper.wp;simp[execOp,hop,resolve,invoke,builtin,hm,hx,a1,Result.andThen];exact hK' _ _ (hK w' r1 r2)
end
end Go.Proofs.YtfppibmloloakaaGreatDoor
