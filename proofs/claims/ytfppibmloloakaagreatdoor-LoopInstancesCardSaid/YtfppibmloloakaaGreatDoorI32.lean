import Derived.Test.YtfppibmloloakaaGreatDoorI20
import Derived.Test.YtfppibmloloakaaGreatDoorI31
namespace Go.Proofs.YtfppibmloloakaaGreatDoor
open Go.RowKit Go.Proofs.Tryz
set_option linter.all false
def Xv (m:Env)(nm:ByteArray)(x:Int):Env:=if Ed m nm then m.map fun p=>(p.1,if eqS p.1 nm then x else p.2) else m ++ [(nm,x)]
theorem Aks (m:Env)(nm s:ByteArray)(x:Int):Ed (m.map fun p=>(p.1,if eqS p.1 nm then x else p.2)) s=Ed m s:=by
 unfold Ed;rw[List.any_map];rfl
theorem Amk (m:Env)(nm s:ByteArray)(x:Int):lk (m.map fun p=>(p.1,if eqS p.1 nm then x else p.2)) s=if Ed m s then(if eqS nm s then x else lk m s) else 0:=by
 induction m with
 | nil=>simp[lk,Ed]
 | cons p m ih=>
  unfold lk Ed at ih⊢;rw[List.map_cons,List.find?_cons,List.find?_cons,List.any_cons];by_cases hp:eqS p.1 s=true
  ·simp only[hp,Bool.true_or,if_true,Option.map_some,Option.getD_some];by_cases hn:eqS nm s=true
   ·have:eqS p.1 nm=true:=Km hp (by rw[Fv];exact hn);simp[this,hn]
   ·have:¬eqS p.1 nm=true:=fun h=>hn (Km (by rw[Fv];exact h) hp)
    simp[this,hn]
  ·simp only[hp,Bool.false_or];exact ih
theorem Aio (m:Env)(nm s:ByteArray)(x:Int):lk (Xv m nm x) s=if eqS nm s then x else lk m s:=by
 unfold Xv;by_cases h:Ed m nm=true
 ·rw[ijp h,Amk];by_cases hs:eqS nm s=true
  ·simp only[ijp hs,Jw hs,ijp h]
  ·simp only[ijn hs];cases hh:Ed m s
   ·rw[ijn (by simp),Tp hh]
   ·rw[ijp rfl]
 ·have h0:Ed m nm=false:=by simpa using h
  rw[ijn h,Ln];by_cases hs:eqS nm s=true
  ·simp only[Jw hs,h0,ijp hs,Bool.false_eq_true,if_false]
  ·simp only[ijn hs];cases hh:Ed m s
   ·rw[ijn (by simp),Tp hh]
   ·rw[ijp rfl]
theorem Akt (m:Env)(nm s:ByteArray)(x:Int):Ed (Xv m nm x) s=(Ed m s||eqS nm s):=by
 unfold Xv;by_cases h:Ed m nm=true
 ·rw[ijp h,Aks];by_cases hs:eqS nm s=true
  ·rw[Jw hs,h];rfl
  ·simp[hs]
 ·rw[ijn h,Hn]
theorem Aee (m:Env)(nm:ByteArray)(x:Int):(Xv m nm x).length=if Ed m nm then m.length else m.length+1:=by
 unfold Xv;split<;>simp
theorem Aku {n:Nat}(h:n<=100000000):n<maxLen:=Nat.lt_of_le_of_lt h (by decide)
theorem Ci.upd {w:World}{b:Nat}{m:Env}(h:Ci w b m)(nm:ByteArray)(x:Int)(hs:nm.size<=1000000)(hx : -9223372036854775808<=x/\x<=9223372036854775807)(hl:m.length<=100000000) :
  ∃w',(Instr.mapUpdate 85 (.map (some b)) (.string nm) (.int .i64 x)).run prog w=.ok () w'/\Ci w' b (Xv m nm x)/\Ext [b] w w':=by
 obtain⟨D,h1,h2,h3,h4⟩:=h;obtain⟨w',hr,h5,h6⟩:=h1.update (t:=85) Ki underlying85 (Aku hl) (Qc hs) (plainElem_int underlying3 (wfS hx));have hE:Ext [b] w w':=(jF [b] w).grown h6 (fun k hk=>.inl (by cases hk;simp));have hk:=Acq nm hs;have a1:=Maps.size_put (k:=Oi nm) (h1.tidy Ki) (.lit (.int .i64 x));rw[h3,h2] at a1;have hsz':Maps.size (D.put (Oi nm) (.lit (.int .i64 x)))=(Xv m nm x).length:=by rw[Aee,a1]
 refine⟨w',hr,⟨_,Hr h5 (by rw[hsz'];exact jD _),hsz',fun s=>?_,fun s=>?_⟩,hE⟩
 ·rw[Akt];by_cases he:eqS nm s=true
  ·rw[he,Bool.or_true,<-Dh.2 he];exact Maps.has_put_same h1.isMap hk _
  ·rw[Maps.has_put_other (fun hh=>he (Dh.1 hh.symm)),h3];simp[he]
 ·rw[Aio];by_cases he:eqS nm s=true
  ·rw[ijp he,<-Dh.2 he];exact Maps.atKey_put_same h1.isMap hk _ _
  ·rw[Maps.atKey_put_other (fun hh=>he (Dh.1 hh.symm)),h4,ijn he]
def MpR (w:World)(mb:Nat)(names:List ByteArray)(vs:List Int)(U:Nat):Prop:=
 ∃m:Env,Ci w mb m/\m.length<=U/\(∀p∈m,Bdd p.2)/\∀s,Dt names s=true->lk m s=lk (names.zip vs) s
theorem MpR.ext {w w':World}{mb U:Nat}{names:List ByteArray}{vs:List Int}(h:MpR w mb names vs U){S:List Nat}(hE:Ext S w w')(hb:mb∉S):MpR w' mb names vs U:=by
 obtain⟨m,h1,h2⟩:=h;exact⟨m,h1.ext hE hb,h2⟩
theorem MpR.more {w:World}{mb U U':Nat}{names:List ByteArray}{vs:List Int}(h:MpR w mb names vs U)(hU:U<=U'):MpR w mb names vs U':=by
 obtain⟨m,h1,h2,h3⟩:=h;exact⟨m,h1,by omega,h3⟩
theorem Wk {names:List ByteArray}{nm s:ByteArray}:Dt (names ++ [nm]) s=(Dt names s||eqS s nm):=by simp[Dt]
theorem Pe {names:List ByteArray}{vs:List Int}(hl:vs.length=names.length)(s:ByteArray):Ed (names.zip vs) s=Dt names s:=by
 rw[Lp,List.map_fst_zip (by omega)]
theorem Pf {names:List ByteArray}{vs:List Int}(hl:vs.length=names.length)(nm:ByteArray)(x:Int):(names ++ [nm]).zip (vs ++ [x])=names.zip vs ++ [(nm,x)]:=by
 rw[List.zip_append hl.symm];rfl
theorem MpR.put {w:World}{mb U:Nat}{names:List ByteArray}{vs:List Int}(h:MpR w mb names vs U)(hl:vs.length=names.length)(nm:ByteArray)(x:Int)(hno:Dt names nm=false)(hs:nm.size<=1000000)(hx:Bdd x)(hU:U<=100000000) :
  ∃w',(Instr.mapUpdate 85 (.map (some mb)) (.string nm) (.int .i64 x)).run prog w=.ok () w'/\MpR w' mb (names ++ [nm]) (vs ++ [x]) (U+1)/\Ext [mb] w w':=by
 obtain⟨m,h1,h2,h3,h4⟩:=h;obtain⟨w',hr,hM,hE⟩:=h1.upd nm x hs ⟨by have:=hx.1;omega,by have:=hx.2;omega⟩ (by omega);refine⟨w',hr,⟨_,hM,?_,fun p hp=>?_,fun s hh=>?_⟩,hE⟩
 ·rw[Aee];split<;>omega
 ·unfold Xv at hp;split at hp
  ·obtain⟨q,hq,rfl⟩:=List.mem_map.1 hp;simp only;split
   ·exact hx
   ·exact h3 q hq
  ·rcases jN.1 hp with hp|hp
   ·exact h3 p hp
   ·rw[jA.1 hp];exact hx
 ·rw[Aio,Pf hl,Ln,Pe hl];rw[Wk] at hh;by_cases he:eqS nm s=true
  ·have:Dt names s=false:=by
    cases hq:Dt names s
    ·rfl
    ·have h5:=Jw (env:=names.zip vs) he;rw[Pe hl,Pe hl,hq,hno] at h5;cases h5
   rw[ijp he,this,ijn (by simp),ijp he]
  ·have h6:eqS s nm=false:=by rw[Fv];simpa using he
   rw[h6,Bool.or_false] at hh;rw[ijn he,hh,ijp rfl];exact h4 s hh
theorem MpR.pop {w:World}{mb U:Nat}{names:List ByteArray}{vs:List Int}{nm:ByteArray}{x:Int}(h:MpR w mb (names ++ [nm]) (vs ++ [x]) U)(hl:vs.length=names.length):MpR w mb names vs U:=by
 obtain⟨m,h1,h2,h3,h4⟩:=h;refine⟨m,h1,h2,h3,fun s hh=>?_⟩
 rw[h4 s (by rw[Wk,hh];rfl),Pf hl,Ln,Pe hl,hh,ijp rfl]
theorem MpR.apart {w:World}{mb U:Nat}{names:List ByteArray}{vs:List Int}(h:MpR w mb names vs U){g:Nat}{t:TypeId}{C:Array Value}(k:Blk w g t C):mb≠g:=by
 obtain⟨m,h1,-⟩:=h;exact h1.apart k
theorem Af1 {m:Env}{names:List ByteArray}{vs:List Int}{a:Af}(h:∀s,Dt names s=true->lk m s=lk (names.zip vs) s)(ha:Cn names a=0):evA m a=evA (names.zip vs) a:=by
 have h5:=(Io ha).2.2.2.2;unfold evA
 have key:∀(l:List (ByteArray×Int)) (b:Int),(∀t∈l,Dt names t.1=true)->l.foldl (fun n t=>n+t.2*lk m t.1) b=l.foldl (fun n t=>n+t.2*lk (names.zip vs) t.1) b:=by
  intro l
  induction l with
  | nil=>intro b _;rfl
  | cons t l ih=>
   intro b hl;rw[List.foldl_cons,List.foldl_cons,h t.1 (hl t (jO ..))];exact ih _ fun t ht=>hl t (jI _ ht)
 refine key _ _ fun t ht=>?_
 have:=List.any_eq_false.1 h5 t ht;unfold Ez at this;simpa using this
theorem Xw (a:Af)(mb U:Nat)(names:List ByteArray)(vs:List Int)(w:World)(ha:Jn w a)(hg:Cn names a=0)(hn:∀x∈names,x.size<=8)(hm:MpR w mb names vs U) :
  Calls prog 84 #[afV a,.map (some mb)] w fun e w'=>e=.returned (.int .i64 (evA (names.zip vs) a))/\Ext [] w w':=by
 obtain⟨m,h1,h2,h3,h4⟩:=hm;have h:=Rn a mb m w ha (AfG.of hg hn) h1 h3;rw[Af1 h4 hg] at h;exact h
theorem Aml {names:List ByteArray}{vs:List Int}(hl:vs.length=names.length)(hd:∀(i j:Nat) (x y:ByteArray),names[i]? = some x->names[j]? = some y->eqS x y=true->i=j):∀(i:Nat) (nm:ByteArray) (x:Int),names[i]? = some nm->vs[i]? = some x->lk (names.zip vs) nm=x:=by
 induction names generalizing vs with
 | nil=>intro i nm x h;simp at h
 | cons n names ih=>
  intro i nm x hi hx
  match vs,hl with
  | v :: vs,hl=>
   unfold lk;rw[List.zip_cons_cons,List.find?_cons];cases i with
   | zero=>
    cases hi
    cases hx
    simp[Om]
   | succ i=>
    have a1:eqS n nm=false:=by
     cases he:eqS n nm
     ·rfl
     ·have:=hd 0 (i+1) n nm rfl hi he;omega
    simp only[a1];exact ih (by simpa using hl) (fun a b x y ha hb he=>by have:=hd (a+1) (b+1) x y ha hb he;omega) i nm x hi hx
structure RtD where
 no:Nat
 vs:List Int
 buf:Int
 at_:Int
 wr:Bool
 part:Int
 inst:Int
structure RtO where
 d:RtD
 A:Option Addr
 c:Nat
def rtL (no:Nat)(A:Option Addr)(n c:Nat)(buf at_:Int)(wr:Bool)(part inst:Int):List Value:=[.int .i64 no,.slice A n c,.int .i64 buf,.int .i64 at_,.bool wr,.int .i64 part,.int .i64 inst]
def rtC (x:RtO):List Value:=rtL x.d.no x.A x.d.vs.length x.c x.d.buf x.d.at_ x.d.wr x.d.part x.d.inst
def Ho (no:Nat)(vs:List Int)(t:Tch):RtD:=⟨no,vs,t.buf,t.at_,t.wr,if t.wr then 0 else t.part+1,t.inst⟩
theorem Acw:∃i,prog.info? 113=some i/\i.zero=some (.agg (rtL 0 none 0 0 0 0 false 0 0).toArray)/\i.size=7/\i.bytes=72:=info_parts (show((prog).info? 113).map (fun i=>(i.zero,i.size,i.bytes))=some (some (.agg (rtL 0 none 0 0 0 0 false 0 0).toArray),7,72) by kernel_rfl)
theorem Aef (O:List RtO):(O.flatMap rtC).length=O.length*7:=by
 induction O with
 | nil=>rfl
 | cons t T ih=>rw[List.flatMap_cons,jG,ih,List.length_cons,Nat.add_mul];simp[rtC,rtL];omega
def Ia (B hi:Nat)(A:Option Addr)(vs:List Int)(w:World):Prop:=vs=[]\/∃(b:Nat) (C:Array Value),A=some b/\B<=b/\b<hi/\Blk w b 3 C/\∀(i:Nat) (x:Int),vs[i]? = some x->C[i]? = some (.int .i64 x)
theorem Ia.ext {B hi:Nat}{A:Option Addr}{vs:List Int}{w w':World}(h:Ia B hi A vs w){S:List Nat}(hE:Ext S w w')(hS:∀b C,B<=b->b<hi->Blk w b 3 C->b∉S):Ia B hi A vs w':=by
 rcases h with h|⟨b,C,h1,h2,h3,h4,h5⟩
 ·exact .inl h
 ·exact .inr ⟨b,C,h1,h2,h3,h4.ext hE (hS b C h2 h3 h4),h5⟩
theorem Ia.more {B hi hi':Nat}{A:Option Addr}{vs:List Int}{w:World}(h:Ia B hi A vs w)(hh:hi<=hi'):Ia B hi' A vs w:=by
 rcases h with h|⟨b,C,h1,h2,h3,h4,h5⟩
 ·exact .inl h
 ·exact .inr ⟨b,C,h1,h2,by omega,h4,h5⟩
def Ey (tb B hi:Nat)(keep:Bool)(D:List RtD)(many count:Nat)(V:Option Nat)(w:World):Prop:=
 tb<B/\B<=w.heap.size/\∃(v:Value) (O:List RtO),v.ownBlock=V/\O.map RtO.d=D/\Blk w tb 163 #[v,many,.bool keep,count]/\w.ownsRow B 113 7 v O.length (O.flatMap rtC)/\∀x∈O,Ia B hi x.A x.d.vs w
theorem Ey.ext {tb B hi many count:Nat}{keep:Bool}{D:List RtD}{V:Option Nat}{w w':World}(h:Ey tb B hi keep D many count V w){S:List Nat}(hE:Ext S w w')(hS:∀x∈S,x≠tb/\V≠some x/\(x<B\/hi<=x)):Ey tb B hi keep D many count V w':=by
 obtain⟨h0,h1,v,O,h2,h3,h4,h5,h6⟩:=h;exact⟨h0,nt h1 hE.size,v,O,h2,h3,h4.ext hE fun hm=>(hS _ hm).1 rfl,Ah h5 hE fun k hk hm=>(hS _ hm).2.1 (h2.symm.trans hk),fun x hx=>(h6 x hx).ext hE fun b C hb hb2 hC hm=>by have:=(hS _ hm).2.2;omega⟩
theorem Ey.ext0 {tb B hi many count:Nat}{keep:Bool}{D:List RtD}{V:Option Nat}{w w':World}(h:Ey tb B hi keep D many count V w)(hE:Ext [] w w'):Ey tb B hi keep D many count V w':=h.ext hE (by simp)
theorem Ey.more {tb B hi hi' many count:Nat}{keep:Bool}{D:List RtD}{V:Option Nat}{w:World}(h:Ey tb B hi keep D many count V w)(hh:hi<=hi'):Ey tb B hi' keep D many count V w:=by
 obtain⟨h0,h1,v,O,h2,h3,h4,h5,h6⟩:=h;exact⟨h0,h1,v,O,h2,h3,h4,h5,fun x hx=>(h6 x hx).more hh⟩
theorem Ey.own {tb B hi many count:Nat}{keep:Bool}{D:List RtD}{V:Option Nat}{w:World}(h:Ey tb B hi keep D many count V w){g:Nat}(hg:V=some g):B<=g/\∃C,Blk w g 113 C:=by
 obtain⟨h0,h1,v,O,h2,h3,h4,h5,h6⟩:=h;exact⟨Ae h5 g (h2.trans hg),Ck h5 (h2.trans hg)⟩
theorem Ey.set {tb B hi many count many' count':Nat}{keep:Bool}{D:List RtD}{V:Option Nat}{w w':World}(h:Ey tb B hi keep D many count V w)(hE:Ext [tb] w w')(hB:∀v,Blk w tb 163 #[v,many,.bool keep,count]->Blk w' tb 163 #[v,many',.bool keep,count']):Ey tb B hi keep D many' count' V w':=by
 obtain⟨h0,h1,v,O,h2,h3,h4,h5,h6⟩:=h;have a1:∀k,B<=k->k∉[tb]:=fun k hk hm=>by rw[jA.1 hm] at hk;omega
 exact⟨h0,nt h1 hE.size,v,O,h2,h3,hB v h4,Ah h5 hE fun k hk=>a1 k (Ae h5 k hk),fun x hx=>(h6 x hx).ext hE fun b C hb _ _=>a1 b hb⟩
theorem Ey.snoc {tb B hi many count:Nat}{keep:Bool}{w w':World}{v:Value}{O:List RtO}{gz cz:Nat}(x:RtO)(h0:tb<B)(h1:B<=w.heap.size)(h5:w.ownsRow B 113 7 v O.length (O.flatMap rtC))(h6:∀x∈O,Ia B hi x.A x.d.vs w)(hx:Ia B hi x.A x.d.vs w)
  (hE:Ext (tb :: v.ownBlock.toList) w w') (hB:Blk w' tb 163 #[.slice (some gz) (O.length+1) cz,many,.bool keep,count]) (hT:w'.ownsRow B 113 7 (.slice (some gz) (O.length+1) cz) (O.length+1) (O.flatMap rtC ++ rtC x)) :
  Ey tb B hi keep (O.map RtO.d ++ [x.d]) many count (some gz) w':=by
 have hn:∀y:RtO,Ia B hi y.A y.d.vs w->Ia B hi y.A y.d.vs w':=fun y hy=>hy.ext hE fun b C hb _ hC hm=>by
  rcases jE.1 hm with h|h
  ·omega
  ·obtain⟨D,hD⟩:=Ck h5 (jC.1 h);exact absurd (hD.type hC) (by decide)
 refine⟨h0,nt h1 hE.size,.slice (some gz) (O.length+1) cz,O ++ [x],rfl,by rw[List.map_append];rfl,hB,?_,fun y hy=>?_⟩
 ·rw[jG,jS,List.flatMap_append];simpa using hT
 ·rcases jN.1 hy with hy|hy
  ·exact hn y (h6 y hy)
  ·rw[jA.1 hy];exact hn x hx
def Jp (H:Nat)(V V':Option Nat):Prop:=∀g,V'=some g->V=some g\/H<=g
theorem Jp.refl (H:Nat)(V:Option Nat):Jp H V V:=fun g h=>.inl h
theorem Jp.trans {H H':Nat}{U V W:Option Nat}(h:Jp H U V)(k:Jp H' V W)(hH:H<=H'):Jp H U W:=fun g hg=>by
 rcases k g hg with h1|h1
 ·exact h g h1
 ·right;omega
section
def JT (w0:World)(t:Nat)(ty:TypeId)(ka kb:Nat)(cont:Bool->Bool->Array Value)(r:Nat->Bool)(w:World):Prop:=Ext [t] w0 w/\Blk w t ty (cont (r ka) (r kb))
def RT (t:Nat)(_:Nat)(w w':World):Prop:=Ext [t] w w'
section
variable {w0 w w':World} {t ka kb i:Nat} {ty:TypeId} {cont:Bool->Bool->Array Value} {r:Nat->Bool}
theorem JT.offs (h:JT w0 t ty ka kb cont r w)(ha:i≠ka)(hb:i≠kb):JT w0 t ty ka kb cont (off r i) w:=by
 have e1:off r i ka=r ka:=by unfold off;simp[Ne.symm ha]
 have e2:off r i kb=r kb:=by unfold off;simp[Ne.symm hb]
 unfold JT;rw[e1,e2];exact h
theorem JT.grow (h:JT w0 t ty ka kb cont r w)(ha:i≠ka)(hb:i≠kb)(hE:Ext [] w w'):JT w0 t ty ka kb cont (off r i) w':=by
 have e1:off r i ka=r ka:=by unfold off;simp[Ne.symm ha]
 have e2:off r i kb=r kb:=by unfold off;simp[Ne.symm hb]
 unfold JT;rw[e1,e2];exact⟨h.1.trans hE.nil,h.2.ext hE (by simp)⟩
theorem JT.seta (h:JT w0 t ty ka kb cont r w)(hab:ka≠kb)(hr:r ka=true){p:Nat}{u:Value}(hc:∀y,(cont true y).setIfInBounds p u=cont false y):JT w0 t ty ka kb cont (off r ka) (w.setCell ⟨t,p,none⟩ u):=by
 have e1:off r ka ka=false:=by unfold off;simp
 have e2:off r ka kb=r kb:=by unfold off;simp[Ne.symm hab]
 unfold JT;rw[e1,e2];obtain⟨h1,h2⟩:=h;rw[hr] at h2;exact⟨h1.trans (jL (.inl (by simp)) (jF _ _)),h2.set_' _ _ _ (hc _)⟩
theorem JT.setb (h:JT w0 t ty ka kb cont r w)(hab:ka≠kb)(hr:r kb=true){p:Nat}{u:Value}(hc:∀x,(cont x true).setIfInBounds p u=cont x false):JT w0 t ty ka kb cont (off r kb) (w.setCell ⟨t,p,none⟩ u):=by
 have e1:off r kb kb=false:=by unfold off;simp
 have e2:off r kb ka=r ka:=by unfold off;simp[hab]
 unfold JT;rw[e1,e2];obtain⟨h1,h2⟩:=h;rw[hr] at h2;exact⟨h1.trans (jL (.inl (by simp)) (jF _ _)),h2.set_' _ _ _ (hc _)⟩
end
theorem rgT {id:Nat}{Q:Exit->Act->World->Prop}{a:Act}{w:World}{l:List Oper}(p t ka kb:Nat)(ty:TypeId)(cont:Bool->Bool->Array Value)(kk:List (Nat×Bc))(hla:decide (ka<l.length)=true)(hlb:decide (kb<l.length)=true)
  (hn:Bj kk ka≠none) (hn2:Bj kk kb≠none) (hG:∀oi,l.toArray[ka]? = some oi->oi.guard=none) (hG2:∀oi,l.toArray[kb]? = some oi->oi.guard=none)
  (hs:∀i s j,Bj kk i=some s->j≠i->∀x w w',RT t j w w'->s.V x w->s.V x w') (h0:Blk w t ty (cont true true))
  (h:Bh prog l.toArray p (JT w t ty ka kb cont) (RT t) (Bj kk) (fun a w=>wpList prog l.toArray Q (l.drop p) a w) 0 (l.take p) a (fun _ _=>True)) (hm:(prog).follows .mixedOrders=true:=by kernel_rfl) (hB:Jo l.toArray p=true:=by kernel_rfl):(Code.region id l.toArray true).wp prog Q a w:=
 Dl p (JT w t ty ka kb cont) (RT t) (Bj kk) hm hB (fun i r w hi hg hJ=>by
  have h1:i≠ka:=by
   rintro rfl;rcases hi with hi|⟨oi,h1,h2⟩
   ·exact hn hi
   ·exact h2 (hG oi h1)
  have h2:i≠kb:=by
   rintro rfl;rcases hi with hi|⟨oi,h1,h2⟩
   ·exact hn2 hi
   ·exact h2 (hG2 oi h1)
  exact hJ.offs h1 h2) hs ⟨(jF _ _).drew,by
   have e1:(fun j=>decide (j<l.length)) ka=true:=hla;have e2:(fun j=>decide (j<l.length)) kb=true:=hlb;rw[e1,e2];exact h0.drew⟩ h
section
variable {P:Program} {ops:Array Oper} {p:Nat} {S:Nat->Option Bc} {Q:Act->World->Prop} {k:Nat} {o:Oper} {rest:List Oper} {a:Act} {F:Nat->World->Prop} {w0:World} {t ka kb:Nat} {ty:TypeId} {cont:Bool->Bool->Array Value}
theorem Aip (s:Bc)(hS:S k=some s)(hw:Region.wanted o (yielded ops a.tmps)=true)(hka:k≠ka)(hkb:k≠kb)
  (hh:∃(f:FuncId) (a1:Array Value),(∀w,(execOp a.eval o).run P w=.ok (.enter f a1) w)/\
   (∀w r,Gm ops k r->JT w0 t ty ka kb cont r w->(∀e∈o.after,Region.binds .any e=true->F e.on w)->Calls P f a1 w fun e w'=>∃x,e=.returned (s.f x)/\s.V x w'/\Ext [] w w'))
  (h:∀x:s.α,Bh P ops p (JT w0 t ty ka kb cont) (RT t) S Q (k+1) rest (a.put o.dst (s.f x)) (upd F k (s.V x))):Bh P ops p (JT w0 t ty ka kb cont) (RT t) S Q k (o :: rest) a F:=by
 obtain⟨f,a1,hr,hu⟩:=hh;refine Gi s hS hw ⟨f,a1,hr,fun w r hg hJ hf=>(hu w r hg hJ hf).mono ?_⟩ h
 rintro e w' ⟨x,he,hV,hE⟩;exact⟨x,he,hV,hJ.grow hka hkb hE,hE.nil⟩
end
def Aao:Bc:=⟨Unit,(),fun _=>undef,fun _ _=>True⟩
theorem Aap (w:World)(no:Nat)(A:Option Addr)(n c:Nat)(buf at_:Int)(wr:Bool)(part inst:Int):(Instr.buildSlice 48 1 #[(0,.agg (rtL no A n c buf at_ wr part inst).toArray)]).run prog w=.ok (.slice (some w.heap.size) 1 1) (w.alloc (.cells (rtL no A n c buf at_ wr part inst).toArray 113)):=by
 obtain⟨i0,a2,a6,a1,a7⟩:=Acw;refine run_buildSlice w _ _ 1 _ _ i0 _ underlying48 a2 a6 (by rw[a1];decide) (by rw[a1];decide) ?_
 rw[a1];have hz:((Array.range (1*7)).map (fun x=>(Value.agg (rtL 0 none 0 0 0 0 false 0 0).toArray).cells[x % (Value.agg (rtL 0 none 0 0 0 0 false 0 0).toArray).cells.size]!))=(rtL 0 none 0 0 0 0 false 0 0).toArray:=by kernel_rfl
 rw[hz];simp[Instr.fill,rtL,Value.cells]
end
end Go.Proofs.YtfppibmloloakaaGreatDoor
