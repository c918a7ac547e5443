import Derived.Maps.OwnOps
import Derived.Maps.OwnSet
import Derived.Maps.Views
import Derived.Maps.RangeWalk
import Derived.Test.YtkgmhggliifkjaaGreatP19
namespace Go.Proofs.YtkgmhggliifkjaaGreat
open Go.RowKit Go.Proofs.Tryz
set_option linter.all false
set_option maxHeartbeats 8000000
set_option maxRecDepth 4000
section
theorem wfI {a:Int}(h : -9223372036854775808<=a/\a<=9223372036854775807):(Lit.int .i64 a).wf=true:=by
 have h1:IntKind.i64.min = -9223372036854775808:=by decide
 have h2:IntKind.i64.max=9223372036854775807:=by decide
 simp[Lit.wf,h1,h2,h]
def Xr (v:Value):Option (DataW Value×List MemPlace):=some (.held v,[])
def Ii (D:DataW Value)(q:Int):Nat:=if Maps.has D (.int .i64 q) then 1 else 0
theorem Ql (D:DataW Value)(q:Int):Ii D q<=1:=by unfold Ii;split<;>omega
def Hg (w:World)(b:Nat)(f:Int->Option Value):Prop:=
 ∃D:DataW Value,w.ownsMap prog 3 Xr b 4 D/\Maps.size D=Ii D 0+Ii D 1+Ii D 2+Ii D 3/\(∀q,Maps.has D (.int .i64 q)=(f q).isSome)/\∀q v,f q=some v->∀z,D.atKey (.int .i64 q) z=.held v
def zTr:Value:=.agg #[(0:Int),(0:Int),(0:Int),(0:Int),(0:Int),(0:Int),.slice none 0 0,(0:Int)]
theorem Agp (w:World):(zeroValue 138).run prog w=.ok zTr w:=by kernel_rfl
theorem Td:Maps.Keyed prog 3:=Maps.int_keyed underlying3
section
variable {w w':World} {b:Nat} {f:Int->Option Value}
theorem Te {P:Program}{k:TypeId}{R:Value->Option (DataW Value×List MemPlace)}{n m:Nat}{D:DataW Value}(h:w.ownsMap P k R b n D)(hm:Maps.size D<=m):w.ownsMap P k R b m D:=by
 obtain⟨es,clock,hb,F,hs,rfl⟩:=h;refine⟨es,clock,hb,F,?_,rfl⟩
 rw[Maps.size_eq,length_sorted] at hm;simpa using hm
theorem Hg.made (w:World):Hg (w.alloc (.map #[] 0)) w.heap.size (fun _=>none):=⟨_,(World.ownsMap_made _ _ _ _).mono (by omega),rfl,fun q=>rfl,fun q v h=>by cases h⟩
theorem Hg.lt (h:Hg w b f):b<w.heap.size:=by obtain⟨D,h,_⟩:=h;exact h.lt
theorem Hg.ext {S:List Nat}(h:Hg w b f)(hE:Ext S w w')(hb:b∉S):Hg w' b f:=by
 have hlt:=h.lt;obtain⟨D,⟨es,clock,h1,h2⟩,h3⟩:=h;exact⟨D,⟨es,clock,(hE.block b hlt hb).trans h1,h2⟩,h3⟩
theorem Hg.apart {g:Nat}{t:TypeId}{C:Array Value}(h:Hg w b f)(k:Blk w g t C):b≠g:=fun e=>by
 obtain⟨D,⟨es,clock,h1,_⟩,_⟩:=h;subst e;unfold Blk at k;rw[h1] at k;cases k
theorem Hg.look (h:Hg w b f)(q:Int)(hq : -9223372036854775808<=q/\q<=9223372036854775807):(Instr.lookup 48 (.map (some b)) (.int .i64 q) true).run prog w=.ok (.tuple #[(f q).getD zTr,.bool (f q).isSome]) w:=by
 obtain⟨D,h1,h2,h3,h4⟩:=h;obtain⟨v,ps,hr,hv⟩:=h1.look_ok (t:=48) Td underlying48 (Agp w) (zd:=.held zTr) (zp:=[]) rfl (Maps.keyOf_int_mk underlying3 (wfI hq));rw[hr,h3 q];have hv':DataW.held v=D.atKey (.int .i64 q) (.held zTr):=by simpa[Xr] using congrArg (fun x=>x.map Prod.fst) hv
 cases hf:f q with
 | none=>
  rw[Maps.atKey_of_not_has (by rw[h3,hf];rfl)] at hv';cases hv'
  rfl
 | some u=>
  rw[h4 q u hf] at hv';cases hv'
  rfl
theorem Rm {D D':DataW Value}{q j:Int}(hD:∀k',k'≠Lit.int .i64 q->Maps.has D' k'=Maps.has D k')(hj:j≠q):Ii D' j=Ii D j:=by
 unfold Ii;rw[hD _ (fun hh=>hj (by cases hh;rfl))]
theorem Hg.store (h:Hg w b f)(q:Int)(v:Value)(hq:0<=q/\q<=3) :
  ∃w',(Instr.mapUpdate 48 (.map (some b)) (.int .i64 q) v).run prog w=.ok () w'/\Hg w' b (Be f q (some v))/\Ext [b] w w':=by
 obtain⟨D,h1,h2,h3,h3'⟩:=h;have hk:=Maps.keyOf_int_mk (P:=prog) underlying3 (wfI (a:=q) (by omega));obtain⟨w',hr,h4,h5⟩:=h1.update (t:=48) Td underlying48 (by unfold maxLen;omega) hk (val:=v) (d:=.held v) (ps:=[]) rfl;have hsz:=Maps.size_put (k:=.int .i64 q) (h1.tidy Td) (.held v);have hs:Ii (D.put (.int .i64 q) (.held v)) q=1:=by unfold Ii;rw[Maps.has_put_same h1.isMap (Td.key hk)];rfl
 have ho:=fun(j:Int) (hj:j≠q)=>Rm (D:=D) (D':=D.put (.int .i64 q) (.held v)) (fun k' hk'=>Maps.has_put_other hk' _) hj
 have hc:Maps.size (D.put (.int .i64 q) (.held v))=Ii D q*0+(if Maps.has D (.int .i64 q) then Maps.size D else Maps.size D+1):=by rw[hsz];omega
 have hb:(if Maps.has D (.int .i64 q) then Maps.size D else Maps.size D+1)+Ii D q=Maps.size D+1:=by unfold Ii;split<;>omega
 have hnew:Maps.size (D.put (.int .i64 q) (.held v))=Ii (D.put (.int .i64 q) (.held v)) 0+Ii (D.put (.int .i64 q) (.held v)) 1+Ii (D.put (.int .i64 q) (.held v)) 2+Ii (D.put (.int .i64 q) (.held v)) 3:=by
  have hq4:q=0\/q=1\/q=2\/q=3:=by omega
  rcases hq4 with rfl|rfl|rfl|rfl
  ·have a1:=ho 1 (by omega);have a2:=ho 2 (by omega);have a3:=ho 3 (by omega);omega
  ·have a1:=ho 0 (by omega);have a2:=ho 2 (by omega);have a3:=ho 3 (by omega);omega
  ·have a1:=ho 0 (by omega);have a2:=ho 1 (by omega);have a3:=ho 3 (by omega);omega
  ·have a1:=ho 0 (by omega);have a2:=ho 1 (by omega);have a3:=ho 2 (by omega);omega
 refine⟨w',hr,⟨_,Te h4 ?_,hnew,fun j=>?_,fun j u hj=>?_⟩,(Ext.refl [b] w).grown h5 (fun k hk=>.inl (by cases hk;simp))⟩
 ·rw[hnew];have b0:=Ql (D.put (.int .i64 q) (.held v)) 0;have b1:=Ql (D.put (.int .i64 q) (.held v)) 1;have b2:=Ql (D.put (.int .i64 q) (.held v)) 2;have b3:=Ql (D.put (.int .i64 q) (.held v)) 3;omega
 ·by_cases hj:j=q
  ·subst hj;rw[Bt];exact Maps.has_put_same h1.isMap (Td.key hk) _
  ·rw[Cw _ _ hj,Maps.has_put_other (fun hh=>hj (by cases hh;rfl)),h3]
 ·by_cases hjq:j=q
  ·subst hjq;rw[Bt] at hj;cases hj
   exact fun z=>Maps.atKey_put_same h1.isMap (Td.key hk) _ _
  ·rw[Cw _ _ hjq] at hj;exact fun z=>by rw[Maps.atKey_put_other (fun hh=>hjq (by cases hh;rfl)),h3' j u hj]
theorem Hg.drop (h:Hg w b f)(q:Int)(hq:0<=q/\q<=3)(ty:TypeId) :
  ∃w',(Builtin.delete_ #[48,3] ty #[.map (some b),q]).run prog w=.ok (.tuple #[]) w'/\Hg w' b (Be f q none)/\Ext [b] w w':=by
 obtain⟨D,h1,h2,h3,h3'⟩:=h;have hk:=Maps.keyOf_int_mk (P:=prog) underlying3 (wfI (a:=q) (by omega));obtain⟨w',hr,h4,h5⟩:=h1.drop (t:=48) Td underlying48 hk ty;have hsz:=Maps.size_del (k:=.int .i64 q) (h1.tidy Td);have hs:Ii (D.del (.int .i64 q)) q=0:=by unfold Ii;rw[Maps.has_del_same];rfl
 have ho:=fun(j:Int) (hj:j≠q)=>Rm (D:=D) (D':=D.del (.int .i64 q)) (fun k' hk'=>Maps.has_del_other hk') hj
 have hb:(if Maps.has D (.int .i64 q) then 1 else 0)=Ii D q:=rfl;rw[hb] at hsz
 have hnew:Maps.size (D.del (.int .i64 q))=Ii (D.del (.int .i64 q)) 0+Ii (D.del (.int .i64 q)) 1+Ii (D.del (.int .i64 q)) 2+Ii (D.del (.int .i64 q)) 3:=by
  have hq4:q=0\/q=1\/q=2\/q=3:=by omega
  rcases hq4 with rfl|rfl|rfl|rfl
  ·have a1:=ho 1 (by omega);have a2:=ho 2 (by omega);have a3:=ho 3 (by omega);omega
  ·have a1:=ho 0 (by omega);have a2:=ho 2 (by omega);have a3:=ho 3 (by omega);omega
  ·have a1:=ho 0 (by omega);have a2:=ho 1 (by omega);have a3:=ho 3 (by omega);omega
  ·have a1:=ho 0 (by omega);have a2:=ho 1 (by omega);have a3:=ho 2 (by omega);omega
 refine⟨w',hr,⟨_,h4,hnew,fun j=>?_,fun j u hj=>?_⟩,(Ext.refl [b] w).grown h5.grown (fun k hk=>.inl (by cases hk;simp))⟩
 ·by_cases hj:j=q
  ·subst hj;rw[Bt,Maps.has_del_same];rfl
  ·rw[Cw _ _ hj,Maps.has_del_other (fun hh=>hj (by cases hh;rfl)),h3]
 ·by_cases hjq:j=q
  ·subst hjq;rw[Bt] at hj;cases hj
  ·rw[Cw _ _ hjq] at hj;exact fun z=>by rw[Maps.atKey_del_other (fun hh=>hjq (by cases hh;rfl)),h3' j u hj]
end
section
variable (w:World) {ops:Array Oper} {rest:List Oper} {o:Oper} {a:Act} {Q:Exit->Act->World->Prop}
theorem Oo (hg:o.guard=none)(m x v:Operand)(hop:o.op=Op.mapUpdate 48 m x v)(b:Nat)(f:Int->Option Value)(hm:a.eval m=.map (some b))(h:Hg w b f)(q:Int)(y:Value)(hx:a.eval x=.int .i64 q)(hv:a.eval v=y)
  (hq:0<=q/\q<=3) (hK:∀w',Hg w' b (Be f q (some y))->Ext [b] w w'->wpList prog ops Q rest (a.put o.dst undef) w'):wpList prog ops Q (o :: rest) a w:=by
 refine wpList_plain hg fun K' hK'=>?_
 obtain⟨w',hrun,r1,r2⟩:=h.store q y hq;unfold Oper.wp;simp[execOp,hop,hm,hx,hv,hrun,Result.andThen];exact hK' _ _ (hK w' r1 r2)
theorem Pc (hg:o.guard=none)(m x:Operand)(hop:o.op=Op.call {callee:=Callee.builtin Builtin.delete,args:=#[m,x],argTypes:=#[48,3] })(b:Nat)(f:Int->Option Value)(hm:a.eval m=.map (some b))(h:Hg w b f)(q:Int)(hx:a.eval x=.int .i64 q)
  (hq:0<=q/\q<=3) (hK:∀w',Hg w' b (Be f q none)->Ext [b] w w'->wpList prog ops Q rest (a.put o.dst (.tuple #[])) w'):wpList prog ops Q (o :: rest) a w:=by
 refine wpList_plain hg fun K' hK'=>?_
 obtain⟨w',hrun,r1,r2⟩:=h.drop q hq o.type;unfold Oper.wp;simp[execOp,hop,resolve,invoke,builtin,hm,hx,hrun,Result.andThen];exact hK' _ _ (hK w' r1 r2)
end
end
section
structure RA where
 A:CA
 vb:Nat->Nat
 vc:Nat->Nat
 wr:Nat->Nat
 wc:Nat->Nat
 wcap:Nat
 ab:Nat
 fb:Nat
def Nb (t:Tr)(a:Option Addr)(cap:Nat):Value:=
 .agg #[.int .i64 t.src.bank,.int .i64 t.src.lo,(t.src.lo+t.src.size),.int .i64 t.dst.bank,.int .i64 t.dst.lo,(t.dst.lo+t.dst.size),.slice a t.words.length cap,.int .i64 t.ready]
def tf (R:RA)(S:MS)(q:Int):Option Value:=(S.q q).map fun t=>Nb t (R.A.ta q) (R.A.tc q)
def Ahk (m:Mc)(R:RA)(n:Nat):Array Value:=#[.int .i64 m.main,.int .i64 m.banks,.int .i64 m.bank,.int .i64 m.lanes,.int .i64 m.queues,.slice R.A.code n R.A.ccap]
def rmF (m:Mc)(R:RA)(S:MS)(n:Nat)(i:Nat):Value:=
 if i<6 then(Ahk m R n).getD i undef
 else if i<22 then .int .i64 (S.r ((i-6:Nat):Int))
 else if i<30 then .slice (some ⟨R.vb (i-22),0,none⟩) m.lanes.toNat (R.vc (i-22))
 else if i=30 then .slice (some R.A.eb) m.lanes.toNat R.wcap
 else if i=31 then .slice (some R.ab) m.lanes.toNat m.lanes.toNat
 else if i=32 then .slice (some R.A.mb) m.main.toNat R.A.mcap
 else if i=33 then .slice (some R.A.bo) m.banks.toNat R.A.bcap
 else if i=34 then .slice (some R.A.so) m.banks.toNat R.A.scap
 else if i=35 then .map (some R.A.qb)
 else if i=36 then R.A.lv
 else if i=37 then .int .i64 S.pc
 else if i=38 then .int .i64 S.cyc
 else if i=39 then .pointer (match S.fault with|none=>none|some _=>some R.fb)
 else .bool S.over
def Fu (m:Mc)(R:RA)(S:MS)(n:Nat):Array Value:=Array.ofFn (n:=41) fun i=>rmF m R S n i
theorem Ci (m:Mc)(R:RA)(S:MS)(n:Nat){i:Nat}(h:i<41):(Fu m R S n)[i]? = some (rmF m R S n i):=by simp[Fu,h]
theorem Ic {m:Mc}{R R':RA}{S S':MS}{n:Nat}(i:Nat){v:Value}(h:∀j,j<41->j≠i->rmF m R S n j=rmF m R' S' n j)(hv:i<41->v=rmF m R' S' n i):(Fu m R S n).setIfInBounds i v=Fu m R' S' n:=by
 apply Array.ext_getElem?
 intro j;rw[Array.getElem?_setIfInBounds];by_cases hj:j<41
 ·by_cases hk:i=j
  ·subst hk;rw[ijp rfl,Ci _ _ _ _ hj,hv hj,ijp (by simp[Fu];exact hj)]
  ·rw[ijn hk,Ci _ _ _ _ hj,Ci _ _ _ _ hj,h j hj (Ne.symm hk)]
 ·have h1:(Fu m R S n)[j]? = none:=Array.getElem?_eq_none (by simp[Fu];omega);have h2:(Fu m R' S' n)[j]? = none:=Array.getElem?_eq_none (by simp[Fu];omega);have h3:(Fu m R S n).size=41:=by simp[Fu]
  rw[h1,h2,h3];split
  ·rw[ijn (by omega)]
  ·rfl
def Jp:List (Nat×Int)->List Value
 | []=>[]
 | (s,i) :: st=>Jp st ++ [.int .i64 (s:Int),.int .i64 i]
def RL (w:World)(A:CA)(turns:List (Nat×Int)):Prop:=w.ownsRow 0 100 2 A.lv turns.length (Jp turns)/\∀g,A.lv.ownBlock=some g->A.kd g=7
structure Abu (w:World)(A:CA)(m:Mc)(xs:List Ins):Prop where
 code:RdC w A.code xs
 banks:UpW w A.bo 22 m.banks.toNat fun b=>.slice (some ⟨A.bk b,0,none⟩) m.bank.toNat m.bank.toNat
 sets:UpW w A.so 80 m.banks.toNat fun b=>.slice (some ⟨A.sb b,0,none⟩) m.bank.toNat m.bank.toNat
 mcap:m.main.toNat<=A.mcap
structure RQ (w:World)(R:RA)(S:MS):Prop where
 map:Hg w R.A.qb (tf R S)
 words:∀q t,S.q q=some t->RdW w (R.A.ta q) t.words/\t.words.length<=R.A.tc q/\∀a,R.A.ta q=some a->R.A.kd a.block=8/\a.block<w.heap.size
structure RV (w:World)(R:RA)(m:Mc)(S:MS):Prop where
 v:∀d:Nat,d<8->UpW w (R.vb d) 3 m.lanes.toNat (fun k=>.int .i64 (S.v (d:Nat) (k:Nat)))/\R.A.kd (R.vb d)=8/\m.lanes.toNat<=R.vc d
 wo:UpW w R.A.eb 22 m.lanes.toNat fun i=>.slice (some ⟨R.wr i,0,none⟩) m.lanes.toNat (R.wc i)
 wt:∀i:Nat,i<m.lanes.toNat->UpW w (R.wr i) 3 m.lanes.toNat (fun k=>.int .i64 (S.wt (i:Nat) (k:Nat)))/\R.A.kd (R.wr i)=8/\m.lanes.toNat<=R.wc i
 wcap:m.lanes.toNat<=R.wcap
 acc:UpW w R.ab 3 m.lanes.toNat fun k=>.int .i64 (S.acc (k:Nat))
 ak:R.A.kd R.ab=9
def RFa (w:World)(R:RA)(S:MS):Prop:=∀a k,S.fault=some (a,k)->Blk w R.fb 36 #[(a:Nat),.int .i64 k]/\R.A.kd R.fb=8
structure Ak (w:World)(R:RA)(m:Mc)(xs:List Ins)(S:MS):Prop where
 ref:Blk w R.A.c 52 (Fu m R S xs.length)
 stat:Abu w R.A m xs
 mem:Ms w R.A m S.mem S.set
 que:RQ w R S
 loops:RL w R.A S.turns
 vec:RV w R m S
 flt:RFa w R S
 kd:CKd R.A m xs
section
variable {w w':World} {R:RA} {A:CA} {m:Mc} {xs:List Ins} {S:MS} {T:List Nat}
theorem Abu.ext (h:Abu w A m xs)(k:CKd A m xs)(hE:Ext T w w')(hT:∀x∈T,A.kd x≠2/\A.kd x≠3/\A.kd x≠6):Abu w' A m xs where
 code:=h.code.exto hE (k.ko.imp id fun hh a ha hm=>by have h0:=hT _ hm;have h1:=hh a ha;omega)
 banks:=h.banks.ext hE (fun hm=>by have h0:=hT _ hm;have h1:=k.kb;omega)
 sets:=h.sets.ext hE (fun hm=>by have h0:=hT _ hm;have h1:=k.ks;omega)
 mcap:=h.mcap
theorem RQ.ext (h:RQ w R S)(k:CKd R.A m xs)(hE:Ext T w w')(hT:∀x∈T,R.A.kd x≠4/\R.A.kd x≠8):RQ w' R S where
 map:=h.map.ext hE (fun hm=>by have h0:=hT _ hm;have h1:=k.kq;omega)
 words:=fun q t ht=>by
  obtain⟨h1,h2,h3⟩:=h.words q t ht;exact⟨h1.ext hE (fun a ha hm=>by have h0:=hT _ hm;have:=h3 a ha;omega),h2,fun a ha=>⟨(h3 a ha).1,nl (h3 a ha).2 hE.size⟩⟩
theorem RV.ext (h:RV w R m S)(k:CKd R.A m xs)(hE:Ext T w w')(hT:∀x∈T,R.A.kd x≠5/\R.A.kd x≠8/\R.A.kd x≠9):RV w' R m S where
 v:=fun d hd=>by obtain⟨h1,h2,h3⟩:=h.v d hd;exact⟨h1.ext hE (fun hm=>by have h0:=hT _ hm;omega),h2,h3⟩
 wo:=h.wo.ext hE (fun hm=>by have h0:=hT _ hm;have h1:=k.ke;omega)
 wt:=fun i hi=>by obtain⟨h1,h2,h3⟩:=h.wt i hi;exact⟨h1.ext hE (fun hm=>by have h0:=hT _ hm;omega),h2,h3⟩
 wcap:=h.wcap
 acc:=h.acc.ext hE (fun hm=>by have h0:=hT _ hm;have:=h.ak;omega)
 ak:=h.ak
theorem RL.ext {turns:List (Nat×Int)}(h:RL w A turns)(hE:Ext T w w')(hT:∀x∈T,A.kd x≠7):RL w' A turns:=
 ⟨An h.1 hE (fun g hg hm=>by have h0:=hT _ hm;have:=h.2 g hg;omega),h.2⟩
theorem RFa.ext (h:RFa w R S)(hE:Ext T w w')(hT:∀x∈T,R.A.kd x≠8):RFa w' R S:=fun a k hf=>by
 obtain⟨h1,h2⟩:=h a k hf;exact⟨h1.ext hE (fun hm=>hT _ hm h2),h2⟩
theorem Ak.ext (h:Ak w R m xs S)(hE:Ext T w w')(hT:∀x∈T,40<=R.A.kd x):Ak w' R m xs S where
 ref:=h.ref.ext hE (fun hm=>by have h0:=hT _ hm;have h1:=h.kd.kc;omega)
 stat:=h.stat.ext h.kd hE (fun x hx=>by have:=hT x hx;omega)
 mem:=h.mem.ext h.kd hE (fun x hx=>by have:=hT x hx;omega)
 que:=h.que.ext h.kd hE (fun x hx=>by have:=hT x hx;omega)
 loops:=h.loops.ext hE (fun x hx=>by have:=hT x hx;omega)
 vec:=h.vec.ext h.kd hE (fun x hx=>by have:=hT x hx;omega)
 flt:=h.flt.ext hE (fun x hx=>by have:=hT x hx;omega)
 kd:=h.kd
theorem Ak.nil (h:Ak w R m xs S)(hE:Ext [] w w'):Ak w' R m xs S:=h.ext hE (by simp)
theorem Ak.lt (h:Ak w R m xs S):R.A.c<w.heap.size:=h.ref.lt
theorem Ak.cell (h:Ak w R m xs S){i:Nat}(hi:i<41){v:Value}(hv:rmF m R S xs.length i=v):w.cell? ⟨R.A.c,i,none⟩=some v:=by
 rw[h.ref.cell,Ci _ _ _ _ hi,hv]
theorem Ak.reg (h:Ak w R m xs S){i:Nat}(hi:i<16):w.cell? ⟨R.A.c,6+i,none⟩=some (.int .i64 (S.r (i:Nat))):=
 h.cell (by omega) (by unfold rmF;rw[ijn (by omega),ijp (by omega),show((6+i-6:Nat):Int)=(i:Nat) by omega])
theorem Ak.vcell (h:Ak w R m xs S){i:Nat}(hi:i<8):w.cell? ⟨R.A.c,22+i,none⟩=some (.slice (some ⟨R.vb i,0,none⟩) m.lanes.toNat (R.vc i)):=
 h.cell (by omega) (by unfold rmF;rw[ijn (by omega),ijn (by omega),ijp (by omega),show(22+i-22:Nat)=i by omega])
theorem Ak.rekd (h:Ak w R m xs S)(kd':Nat->Nat)(hk:∀b,b<w.heap.size->kd' b=R.A.kd b):Ak w {R with A:={R.A with kd:=kd' } } m xs S where
 ref:=h.ref
 stat:=⟨h.stat.code,h.stat.banks,h.stat.sets,h.stat.mcap⟩
 mem:=⟨h.mem.main,h.mem.bank,h.mem.set⟩
 que:=⟨h.que.map,fun q t ht=>by
  obtain⟨h1,h2,h3⟩:=h.que.words q t ht;exact⟨h1,h2,fun a ha=>⟨by show kd' _=_;rw[hk _ (h3 a ha).2];exact(h3 a ha).1,(h3 a ha).2⟩⟩⟩
 loops:=⟨h.loops.1,fun g hg=>by show kd' g=7;rw[hk g (h.loops.1.lt g hg).2];exact h.loops.2 g hg⟩
 vec:=⟨fun d hd=>by obtain⟨h1,h2,h3⟩:=h.vec.v d hd;exact⟨h1,by show kd' _=_;rw[hk _ h1.lt];exact h2,h3⟩,h.vec.wo,fun i hi=>by obtain⟨h1,h2,h3⟩:=h.vec.wt i hi;exact⟨h1,by show kd' _=_;rw[hk _ h1.lt];exact h2,h3⟩,h.vec.wcap,h.vec.acc,by show kd' _=_;rw[hk _ h.vec.acc.lt];exact h.vec.ak⟩
 flt:=fun a k hf=>by obtain⟨h1,h2⟩:=h.flt a k hf;exact⟨h1,by show kd' _=_;rw[hk _ h1.lt];exact h2⟩
 kd:={
  ok:=h.kd.ok
  kc:=by show kd' _=_;rw[hk _ h.ref.lt];exact h.kd.kc
  km:=by show kd' _=_;rw[hk _ h.mem.main.lt];exact h.kd.km
  kb:=by show kd' _=_;rw[hk _ h.stat.banks.lt];exact h.kd.kb
  ks:=by show kd' _=_;rw[hk _ h.stat.sets.lt];exact h.kd.ks
  kq:=by show kd' _=_;rw[hk _ h.que.map.lt];exact h.kd.kq
  ke:=by show kd' _=_;rw[hk _ h.vec.wo.lt];exact h.kd.ke
  ko:=by
   by_cases hx:xs=[]
   ·exact .inl hx
   rcases h.kd.ko with h0|h0
   ·exact .inl h0
   ·refine .inr fun a ha=>?_
    show kd' _=_
    have hlt:a.block<w.heap.size:=by
     rcases h.stat.code with h1|⟨b,o,he,hc⟩
     ·exact absurd h1 hx
     ·rw[he] at ha;cases ha
      obtain⟨x,hx0⟩:∃x,xs[0]? = some x:=by
       match xs,hx with
       | x :: xs,_=>exact⟨x,rfl⟩
      exact World.block_lt_of_cell? w _ (hc 0 x hx0 0 _ rfl)
    rw[hk _ hlt];exact h0 a ha
  kbk:=fun b hb=>by show kd' _=_;rw[hk _ (h.mem.bank b hb).lt];exact h.kd.kbk b hb
  ksb:=fun b hb=>by show kd' _=_;rw[hk _ (h.mem.set b hb).lt];exact h.kd.ksb b hb }
theorem Ak.setC (h:Ak w R m xs S)(i:Nat)(v:Value)(S':MS)(hm:S'.mem=S.mem)(hs:S'.set=S.set)(hq:S'.q=S.q)(ht:S'.turns=S.turns)(hv':S'.v=S.v)(hw:S'.wt=S.wt)(ha:S'.acc=S.acc)(hf:S'.fault=S.fault)
  (hc:∀j,j<41->j≠i->rmF m R S xs.length j=rmF m R S' xs.length j) (hv:i<41->v=rmF m R S' xs.length i):Ak (w.setCell ⟨R.A.c,i,none⟩ v) R m xs S':=by
 have hE:Ext [R.A.c] w (w.setCell ⟨R.A.c,i,none⟩ v):=er.setCell (.inl (by simp)) _;have hT:∀x∈[R.A.c],R.A.kd x=0:=fun x hx=>by rw[ms hx];exact h.kd.kc
 have hV:=h.vec.ext h.kd hE (fun x hx=>by have:=hT x hx;omega);have hQ:=h.que.ext h.kd hE (fun x hx=>by have:=hT x hx;omega);refine⟨h.ref.set_' i v _ (Ic i hc hv),h.stat.ext h.kd hE (fun x hx=>by have:=hT x hx;omega),?_,⟨?_,?_⟩,?_,⟨?_,hV.wo,?_,hV.wcap,?_,hV.ak⟩,?_,h.kd⟩
 ·rw[hm,hs];exact h.mem.ext h.kd hE (fun x hx=>by have:=hT x hx;omega)
 ·have:tf R S'=tf R S:=by unfold tf;rw[hq]
  rw[this];exact hQ.map
 ·intro q t hqt;rw[hq] at hqt;exact hQ.words q t hqt
 ·rw[ht];exact h.loops.ext hE (fun x hx=>by have:=hT x hx;omega)
 ·rw[hv'];exact hV.v
 ·rw[hw];exact hV.wt
 ·rw[ha];exact hV.acc
 ·have:=h.flt.ext hE (fun x hx=>by have:=hT x hx;omega);intro a k hh;rw[hf] at hh;exact this a k hh
theorem Rn {S':MS}{n j:Nat}(hr:S'.r=S.r)(h4:j=37->S'.pc=S.pc)(h5:j=38->S'.cyc=S.cyc)(h6:j=39->S'.fault=S.fault)(h8:40<=j->S'.over=S.over):rmF m R S n j=rmF m R S' n j:=by
 unfold rmF;rw[hr];by_cases c1:j<6
 ·rw[ijp c1,ijp c1]
 rw[ijn c1,ijn c1];by_cases c2:j<22
 ·rw[ijp c2,ijp c2]
 rw[ijn c2,ijn c2];by_cases c3:j<30
 ·rw[ijp c3,ijp c3]
 rw[ijn c3,ijn c3];by_cases c4:j=30
 ·rw[ijp c4,ijp c4]
 rw[ijn c4,ijn c4];by_cases c5:j=31
 ·rw[ijp c5,ijp c5]
 rw[ijn c5,ijn c5];by_cases c6:j=32
 ·rw[ijp c6,ijp c6]
 rw[ijn c6,ijn c6];by_cases c7:j=33
 ·rw[ijp c7,ijp c7]
 rw[ijn c7,ijn c7];by_cases c8:j=34
 ·rw[ijp c8,ijp c8]
 rw[ijn c8,ijn c8];by_cases c9:j=35
 ·rw[ijp c9,ijp c9]
 rw[ijn c9,ijn c9];by_cases c10:j=36
 ·rw[ijp c10,ijp c10]
 rw[ijn c10,ijn c10];by_cases c11:j=37
 ·rw[ijp c11,ijp c11,h4 c11]
 rw[ijn c11,ijn c11];by_cases c12:j=38
 ·rw[ijp c12,ijp c12,h5 c12]
 rw[ijn c12,ijn c12];by_cases c13:j=39
 ·rw[ijp c13,ijp c13,h6 c13]
 rw[ijn c13,ijn c13,h8 (by omega)]
theorem Ak.setPc (h:Ak w R m xs S)(p:Nat):Ak (w.setCell ⟨R.A.c,37,none⟩ p) R m xs {S with pc:=p }:=
 h.setC 37 _ _ rfl rfl rfl rfl rfl rfl rfl rfl (fun j hj hne=>Rn rfl (fun h=>absurd h hne) (fun _=>rfl) (fun _=>rfl) (fun _=>rfl)) (fun _=>rfl)
theorem Ak.setCyc (h:Ak w R m xs S)(p:Int):Ak (w.setCell ⟨R.A.c,38,none⟩ p) R m xs {S with cyc:=p }:=
 h.setC 38 _ _ rfl rfl rfl rfl rfl rfl rfl rfl (fun j hj hne=>Rn rfl (fun _=>rfl) (fun h=>absurd h hne) (fun _=>rfl) (fun _=>rfl)) (fun _=>rfl)
theorem Ak.setOver (h:Ak w R m xs S):Ak (w.setCell ⟨R.A.c,40,none⟩ (.bool true)) R m xs {S with over:=true }:=
 h.setC 40 _ _ rfl rfl rfl rfl rfl rfl rfl rfl (fun j hj hne=>Rn rfl (fun _=>rfl) (fun _=>rfl) (fun _=>rfl) (fun h=>by omega)) (fun _=>rfl)
theorem Ak.setReg (h:Ak w R m xs S)(d:Nat)(hd:d<16)(v:Int):Ak (w.setCell ⟨R.A.c,6+d,none⟩ v) R m xs {S with r:=Be S.r (d:Nat) v }:=by
 refine h.setC (6+d) _ _ rfl rfl rfl rfl rfl rfl rfl rfl (fun j hj hne=>?_) (fun _=>?_)
 ·unfold rmF;dsimp only;by_cases h1:j<6
  ·rw[ijp h1,ijp h1]
  rw[ijn h1,ijn h1];by_cases h2:j<22
  ·rw[ijp h2,ijp h2,Cw _ _ (by omega)]
  rw[ijn h2,ijn h2]
 ·unfold rmF;dsimp only;rw[ijn (by omega),ijp (by omega),show((6+d-6:Nat):Int)=(d:Nat) by omega,Bt]
end
def Gp (R:RA)(m:Mc)(xs:List Ins)(S:MS)(w:World)(e:Ending)(w':World):Prop:=e=.returned (.tuple #[])/\∃R',Aj R.A w w'/\Ak w' R' m xs S/\R'.A.c=R.A.c/\∀b,b<w.heap.size->R'.A.kd b=R.A.kd b
end
end Go.Proofs.YtkgmhggliifkjaaGreat
