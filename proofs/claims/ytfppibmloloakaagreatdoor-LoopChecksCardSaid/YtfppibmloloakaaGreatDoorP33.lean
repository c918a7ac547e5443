import Derived.Test.YtfppibmloloakaaGreatDoorP03
import Derived.Maps.OwnOps
import Derived.Maps.OwnSet
import Derived.Maps.Views
namespace Go.Proofs.YtfppibmloloakaaGreatDoor
open Go.RowKit Go.Proofs.Tryz
set_option linter.all false
def keyS (s:ByteArray):Lit:=.string s.data.toList
theorem keyS_iff {a b:ByteArray}:keyS a=keyS b ↔ eqS a b=true:=by
 rw[eqS_iff,ByteArray.toList_eq,ByteArray.toList_eq];unfold keyS;constructor
 ·intro h;injection h
 ·intro h;rw[h]
theorem keyedS:Maps.Keyed Tryz.prog 9:=Maps.string_keyed Tryz.underlying9
theorem lt_maxLen {n:Nat}(h:n<=1000000):n<maxLen:=Nat.lt_of_le_of_lt h (by decide)
theorem keyOfS {s:ByteArray}(h:s.size<=1000000):keyOf Tryz.prog 9 (.string s)=some (keyS s):=by
 have h1:s.size<=maxLen:=Nat.le_of_lt (lt_maxLen h);simp[keyOf,Tryz.underlying9,mapKey,keyS,h1]
def hasE (env:Env)(s:ByteArray):Bool:=env.any fun p=>eqS p.1 s
def SMap (w:World)(b:Nat)(env:Env):Prop:=
 ∃D:DataW Unit,w.ownsMap Tryz.prog 9 (plainElem Tryz.prog 3) b env.length D/\Maps.size D=env.length/\(∀s,Maps.has D (keyS s)=hasE env s)/\∀s,D.atKey (keyS s) (.lit (.int .i64 0))=.lit (.int .i64 (lk env s))
theorem ownsMap_sizeS {P:Program}{k:TypeId}{R:Value->Option (DataW Unit×List MemPlace)}{w:World}{b n m:Nat}{D:DataW Unit}(h:w.ownsMap P k R b n D)(hm:Maps.size D<=m):w.ownsMap P k R b m D:=by
 obtain⟨es,clock,hb,F,hs,rfl⟩:=h;refine⟨es,clock,hb,F,?_,rfl⟩
 rw[Maps.size_eq,length_sorted] at hm;simpa using hm
section
variable {w w':World} {b:Nat} {env:Env} {nm s:ByteArray} {x y:Int}
theorem hasE_snoc:hasE (env ++ [(nm,x)]) s=(hasE env s||eqS nm s):=by simp[hasE]
theorem hasE_eq (h:eqS nm s=true):hasE env s=hasE env nm:=by
 unfold hasE;congr 1
 funext p
 rw[Bool.eq_iff_iff];exact⟨fun k=>eqS_trans k (by rw[eqS_comm];exact h),fun k=>eqS_trans k h⟩
theorem lk_has (h:hasE env s=false):lk env s=0:=by
 unfold lk
 have:env.find? (fun p=>eqS p.1 s)=none:=by
  rw[List.find?_eq_none];intro p hp;unfold hasE at h;rw[List.any_eq_false] at h;exact h p hp
 rw[this];rfl
theorem lk_snoc:lk (env ++ [(nm,x)]) s=if hasE env s then lk env s else if eqS nm s then x else 0:=by
 unfold lk hasE;rw[List.find?_append];cases h:env.find? (fun p=>eqS p.1 s) with
 | none=>
  have:env.any (fun p=>eqS p.1 s)=false:=by
   rw[List.any_eq_false];intro p hp;exact List.find?_eq_none.1 h p hp
  rw[this];by_cases hn:eqS nm s=true
  ·simp[hn]
  ·simp[hn]
 | some p=>
  have:env.any (fun p=>eqS p.1 s)=true:=List.any_eq_true.2 ⟨p,List.mem_of_find?_eq_some h,by simpa using List.find?_some (p:=fun p:ByteArray×Int=>eqS p.1 s) h⟩;rw[this];rfl
theorem SMap.made (w:World):SMap (w.alloc (.map #[] 0)) w.heap.size []:=⟨_,World.ownsMap_made _ _ _ _,rfl,fun s=>rfl,fun s=>rfl⟩
theorem SMap.lt (h:SMap w b env):b<w.heap.size:=by obtain⟨D,h,_⟩:=h;exact h.lt
theorem SMap.ext {S:List Nat}(h:SMap w b env)(hE:Ext S w w')(hb:b∉S):SMap w' b env:=by
 have hlt:=h.lt;obtain⟨D,⟨es,clock,h1,h2⟩,h3⟩:=h;exact⟨D,⟨es,clock,(hE.block b hlt hb).trans h1,h2⟩,h3⟩
theorem SMap.look (h:SMap w b env)(hs:s.size<=1000000):(Instr.lookup 85 (.map (some b)) (.string s) false).run Tryz.prog w=.ok (.int .i64 (lk env s)) w:=by
 obtain⟨D,h1,h2,h3,h4⟩:=h;obtain⟨c,hr,hat,_⟩:=h1.lookup_int (t:=85) keyedS Tryz.underlying85 Tryz.underlying3 (by kernel_rfl) (keyOfS hs);rw[h4 s] at hat
 cases hat
 exact hr
theorem wfS {a:Int}(h : -9223372036854775808<=a/\a<=9223372036854775807):(Lit.int .i64 a).wf=true:=by
 have h1:IntKind.i64.min = -9223372036854775808:=by decide
 have h2:IntKind.i64.max=9223372036854775807:=by decide
 simp[Lit.wf,h1,h2,h]
theorem SMap.put_ (D:DataW Unit)(env':Env)(h1:w.ownsMap Tryz.prog 9 (plainElem Tryz.prog 3) b env'.length D)(hs:nm.size<=1000000)(hx : -9223372036854775808<=x/\x<=9223372036854775807)(hl:env'.length<=1000) :
  ∃w' n,(Instr.mapUpdate 85 (.map (some b)) (.string nm) (.int .i64 x)).run Tryz.prog w=.ok () w'/\w'.ownsMap Tryz.prog 9 (plainElem Tryz.prog 3) b n (D.put (keyS nm) (.lit (.int .i64 x)))/\Ext [b] w w':=by
 obtain⟨w',hr,h4,h5⟩:=h1.update (t:=85) keyedS Tryz.underlying85 (lt_maxLen (by omega)) (keyOfS hs) (plainElem_int Tryz.underlying3 (wfS hx));exact⟨w',_,hr,h4,(Ext.refl [b] w).grown h5 (fun k hk=>.inl (by cases hk;simp))⟩
theorem isKeyS (nm:ByteArray)(hs:nm.size<=1000000):WideAt.IsKeyLit (keyS nm):=keyedS.key (keyOfS hs)
theorem SMap.storeNew (h:SMap w b env)(hno:hasE env nm=false)(hs:nm.size<=1000000)(hx : -9223372036854775808<=x/\x<=9223372036854775807)(hl:env.length<=900) :
  ∃w',(Instr.mapUpdate 85 (.map (some b)) (.string nm) (.int .i64 x)).run Tryz.prog w=.ok () w'/\SMap w' b (env ++ [(nm,x)])/\Ext [b] w w':=by
 obtain⟨D,h1,h2,h3,h4⟩:=h;obtain⟨w',n,hr,ho,hE⟩:=SMap.put_ (nm:=nm) (x:=x) D env h1 hs hx (by omega);have hk:=isKeyS nm hs;have hsz:=Maps.size_put (k:=keyS nm) (h1.tidy keyedS) (.lit (.int .i64 x));rw[h3,hno,if_neg (by simp),h2] at hsz;refine⟨w',hr,⟨_,ownsMap_sizeS ho (by rw[hsz];simp),by rw[hsz];simp,fun s=>?_,fun s=>?_⟩,hE⟩
 ·rw[hasE_snoc];by_cases he:eqS nm s=true
  ·rw[he,Bool.or_true,<-keyS_iff.2 he];exact Maps.has_put_same h1.isMap hk _
  ·rw[Maps.has_put_other (fun hh=>he (keyS_iff.1 hh.symm)),h3];simp[he]
 ·rw[lk_snoc];by_cases he:eqS nm s=true
  ·rw[hasE_eq he,hno,if_neg (by simp),if_pos he,<-keyS_iff.2 he];exact Maps.atKey_put_same h1.isMap hk _ _
  ·rw[Maps.atKey_put_other (fun hh=>he (keyS_iff.1 hh.symm)),h4,if_neg he];cases hh:hasE env s
   ·rw[if_neg (by simp),lk_has hh]
   ·rw[if_pos rfl]
theorem SMap.storeLast (h:SMap w b (env ++ [(nm,y)]))(hno:hasE env nm=false)(hs:nm.size<=1000000)(hx : -9223372036854775808<=x/\x<=9223372036854775807)(hl:env.length<=900) :
  ∃w',(Instr.mapUpdate 85 (.map (some b)) (.string nm) (.int .i64 x)).run Tryz.prog w=.ok () w'/\SMap w' b (env ++ [(nm,x)])/\Ext [b] w w':=by
 obtain⟨D,h1,h2,h3,h4⟩:=h;obtain⟨w',n,hr,ho,hE⟩:=SMap.put_ (nm:=nm) (x:=x) D (env ++ [(nm,y)]) h1 hs hx (by simp;omega);have hk:=isKeyS nm hs;have hsz:=Maps.size_put (k:=keyS nm) (h1.tidy keyedS) (.lit (.int .i64 x));rw[h3,hasE_snoc,eqS_refl,Bool.or_true,if_pos rfl,h2] at hsz;refine⟨w',hr,⟨_,ownsMap_sizeS ho (by rw[hsz];simp),by rw[hsz];simp,fun s=>?_,fun s=>?_⟩,hE⟩
 ·rw[hasE_snoc];by_cases he:eqS nm s=true
  ·rw[he,Bool.or_true,<-keyS_iff.2 he];exact Maps.has_put_same h1.isMap hk _
  ·rw[Maps.has_put_other (fun hh=>he (keyS_iff.1 hh.symm)),h3,hasE_snoc]
 ·rw[lk_snoc];by_cases he:eqS nm s=true
  ·rw[hasE_eq he,hno,if_neg (by simp),if_pos he,<-keyS_iff.2 he];exact Maps.atKey_put_same h1.isMap hk _ _
  ·rw[Maps.atKey_put_other (fun hh=>he (keyS_iff.1 hh.symm)),h4,lk_snoc,if_neg he,if_neg he]
theorem SMap.dropLast (h:SMap w b (env ++ [(nm,y)]))(hno:hasE env nm=false)(hs:nm.size<=1000000)(ty:TypeId) :
  ∃w',(Builtin.delete_ #[85,9] ty #[.map (some b),.string nm]).run Tryz.prog w=.ok (.tuple #[]) w'/\SMap w' b env/\Ext [b] w w':=by
 obtain⟨D,h1,h2,h3,h4⟩:=h;obtain⟨w',hr,ho,h5⟩:=h1.drop (t:=85) keyedS Tryz.underlying85 (keyOfS hs) ty;have hsz:=Maps.size_del (k:=keyS nm) (h1.tidy keyedS);rw[h3,hasE_snoc,eqS_refl,Bool.or_true,if_pos rfl,h2,List.length_append] at hsz;have hsz':Maps.size (D.del (keyS nm))=env.length:=by simp at hsz;omega
 refine⟨w',hr,⟨_,ownsMap_sizeS ho (by rw[hsz'];exact Nat.le_refl _),hsz',fun s=>?_,fun s=>?_⟩,(Ext.refl [b] w).grown h5.grown (fun k hk=>.inl (by cases hk;simp))⟩
 ·by_cases he:eqS nm s=true
  ·rw[hasE_eq he,hno,<-keyS_iff.2 he];exact Maps.has_del_same
  ·rw[Maps.has_del_other (fun hh=>he (keyS_iff.1 hh.symm)),h3,hasE_snoc];simp[he]
 ·by_cases he:eqS nm s=true
  ·rw[lk_has (by rw[hasE_eq he];exact hno),<-keyS_iff.2 he];exact Maps.atKey_del_same _
  ·rw[Maps.atKey_del_other (fun hh=>he (keyS_iff.1 hh.symm)),h4,lk_snoc,if_neg he];cases hh:hasE env s
   ·rw[if_neg (by simp),lk_has hh]
   ·rw[if_pos rfl]
theorem SMap.dropNone (h:SMap w b env)(hno:hasE env nm=false)(hs:nm.size<=1000000)(ty:TypeId) :
  ∃w',(Builtin.delete_ #[85,9] ty #[.map (some b),.string nm]).run Tryz.prog w=.ok (.tuple #[]) w'/\SMap w' b env/\Ext [b] w w':=by
 obtain⟨D,h1,h2,h3,h4⟩:=h;obtain⟨w',hr,ho,h5⟩:=h1.drop (t:=85) keyedS Tryz.underlying85 (keyOfS hs) ty;rw[Maps.del_of_not_has (by rw[h3];exact hno)] at ho;exact⟨w',hr,⟨_,ho,h2,h3,h4⟩,(Ext.refl [b] w).grown h5.grown (fun k hk=>.inl (by cases hk;simp))⟩
def setL (env:Env):Option Int->ByteArray->Env|none,_=>env|some y,nm=>env ++ [(nm,y)]
theorem SMap.store (o:Option Int)(h:SMap w b (setL env o nm))(hno:hasE env nm=false)(hs:nm.size<=1000000)(hx : -9223372036854775808<=x/\x<=9223372036854775807)(hl:env.length<=900) :
  ∃w',(Instr.mapUpdate 85 (.map (some b)) (.string nm) (.int .i64 x)).run Tryz.prog w=.ok () w'/\SMap w' b (env ++ [(nm,x)])/\Ext [b] w w':=by
 cases o with
 | none=>exact SMap.storeNew h hno hs hx hl
 | some y=>exact SMap.storeLast h hno hs hx hl
theorem SMap.drop (o:Option Int)(h:SMap w b (setL env o nm))(hno:hasE env nm=false)(hs:nm.size<=1000000)(ty:TypeId) :
  ∃w',(Builtin.delete_ #[85,9] ty #[.map (some b),.string nm]).run Tryz.prog w=.ok (.tuple #[]) w'/\SMap w' b env/\Ext [b] w w':=by
 cases o with
 | none=>exact SMap.dropNone h hno hs ty
 | some y=>exact SMap.dropLast h hno hs ty
end
section
variable (w:World) {ops:Array Oper} {rest:List Oper} {o:Oper} {a:Act} {Q:Exit->Act->World->Prop}
theorem wpList_smap_store (hg:o.guard=none)(m x v:Operand)(hop:o.op=Op.mapUpdate 85 m x v)(b:Nat)(env:Env)(q:Option Int)(nm:ByteArray)(y:Int)(hm:a.eval m=.map (some b))(h:SMap w b (setL env q nm))(hx:a.eval x=.string nm)(hv:a.eval v=.int .i64 y)
  (hno:hasE env nm=false) (hs:nm.size<=1000000) (hy : -9223372036854775808<=y/\y<=9223372036854775807) (hl:env.length<=900)
  (hK:∀w',SMap w' b (env ++ [(nm,y)])->Ext [b] w w'->wpList Tryz.prog ops Q rest (a.put o.dst undef) w'):wpList Tryz.prog ops Q (o :: rest) a w:=by
 refine wpList_plain hg fun K' hK'=>?_
 obtain⟨w',hrun,r1,r2⟩:=h.store q hno hs hy hl;unfold Oper.wp;simp[execOp,hop,hm,hx,hv,hrun,Result.andThen];exact hK' _ _ (hK w' r1 r2)
theorem wpList_smap_drop (hg:o.guard=none)(m x:Operand)(hop:o.op=Op.call {callee:=Callee.builtin Builtin.delete,args:=#[m,x],argTypes:=#[85,9] })(b:Nat)(env:Env)(q:Option Int)(nm:ByteArray)(hm:a.eval m=.map (some b))(h:SMap w b (setL env q nm))(hx:a.eval x=.string nm)
  (hno:hasE env nm=false) (hs:nm.size<=1000000) (hK:∀w',SMap w' b env->Ext [b] w w'->wpList Tryz.prog ops Q rest (a.put o.dst (.tuple #[])) w'):wpList Tryz.prog ops Q (o :: rest) a w:=by
 refine wpList_plain hg fun K' hK'=>?_
 obtain⟨w',hrun,r1,r2⟩:=h.drop q hno hs o.type;unfold Oper.wp;simp[execOp,hop,resolve,invoke,builtin,hm,hx,hrun,Result.andThen];exact hK' _ _ (hK w' r1 r2)
end
end Go.Proofs.YtfppibmloloakaaGreatDoor
