import Derived.Test.YtfjdmoppfbddpaaGreatDoorP25
import Derived.Test.YtfjdmoppfbddpaaGreatDoorP40
namespace Go.Proofs.YtfjdmoppfbddpaaGreatDoor
open Go.RowKit Go.Proofs.Tryz
set_option linter.all false
def updE (m:Env)(nm:ByteArray)(x:Int):Env:=if hasE m nm then m.map fun p=>(p.1,if eqS p.1 nm then x else p.2) else m ++ [(nm,x)]
theorem has_map (m:Env)(nm s:ByteArray)(x:Int):hasE (m.map fun p=>(p.1,if eqS p.1 nm then x else p.2)) s=hasE m s:=by
 unfold hasE;rw[List.any_map];rfl
theorem lk_map (m:Env)(nm s:ByteArray)(x:Int):lk (m.map fun p=>(p.1,if eqS p.1 nm then x else p.2)) s=if hasE m s then(if eqS nm s then x else lk m s) else 0:=by
 induction m with
 | nil=>simp[lk,hasE]
 | cons p m ih=>
  unfold lk hasE at ih⊢;rw[List.map_cons,List.find?_cons,List.find?_cons,List.any_cons];by_cases hp:eqS p.1 s=true
  ·simp only[hp,Bool.true_or,if_true,Option.map_some,Option.getD_some];by_cases hn:eqS nm s=true
   ·have:eqS p.1 nm=true:=eqS_trans hp (by rw[eqS_comm];exact hn);simp[this,hn]
   ·have:¬eqS p.1 nm=true:=fun h=>hn (eqS_trans (by rw[eqS_comm];exact h) hp)
    simp[this,hn]
  ·simp only[hp,Bool.false_or];exact ih
theorem lk_upd (m:Env)(nm s:ByteArray)(x:Int):lk (updE m nm x) s=if eqS nm s then x else lk m s:=by
 unfold updE;by_cases h:hasE m nm=true
 ·rw[if_pos h,lk_map];by_cases hs:eqS nm s=true
  ·simp only[if_pos hs,hasE_eq hs,if_pos h]
  ·simp only[if_neg hs];cases hh:hasE m s
   ·rw[if_neg (by simp),lk_has hh]
   ·rw[if_pos rfl]
 ·have h0:hasE m nm=false:=by simpa using h
  rw[if_neg h,lk_snoc];by_cases hs:eqS nm s=true
  ·simp only[hasE_eq hs,h0,if_pos hs,Bool.false_eq_true,if_false]
  ·simp only[if_neg hs];cases hh:hasE m s
   ·rw[if_neg (by simp),lk_has hh]
   ·rw[if_pos rfl]
theorem has_upd (m:Env)(nm s:ByteArray)(x:Int):hasE (updE m nm x) s=(hasE m s||eqS nm s):=by
 unfold updE;by_cases h:hasE m nm=true
 ·rw[if_pos h,has_map];by_cases hs:eqS nm s=true
  ·rw[hasE_eq hs,h];rfl
  ·simp[hs]
 ·rw[if_neg h,hasE_snoc]
theorem upd_len (m:Env)(nm:ByteArray)(x:Int):(updE m nm x).length=if hasE m nm then m.length else m.length+1:=by
 unfold updE;split<;>simp
theorem lt_maxL {n:Nat}(h:n<=100000000):n<maxLen:=Nat.lt_of_le_of_lt h (by decide)
theorem SMap.upd {w:World}{b:Nat}{m:Env}(h:SMap w b m)(nm:ByteArray)(x:Int)(hs:nm.size<=1000000)(hx : -9223372036854775808<=x/\x<=9223372036854775807)(hl:m.length<=100000000) :
  ∃w',(Instr.mapUpdate 92 (.map (some b)) (.string nm) (.int .i64 x)).run Tryz.prog w=.ok () w'/\SMap w' b (updE m nm x)/\Ext [b] w w':=by
 obtain⟨D,h1,h2,h3,h4⟩:=h;obtain⟨w',hr,h5,h6⟩:=h1.update (t:=92) keyedS Tryz.underlying92 (lt_maxL hl) (keyOfS hs) (plainElem_int Tryz.underlying3 (wfS hx));have hE:Ext [b] w w':=(Ext.refl [b] w).grown h6 (fun k hk=>.inl (by cases hk;simp));have hk:=isKeyS nm hs;have hsz:=Maps.size_put (k:=keyS nm) (h1.tidy keyedS) (.lit (.int .i64 x));rw[h3,h2] at hsz;have hsz':Maps.size (D.put (keyS nm) (.lit (.int .i64 x)))=(updE m nm x).length:=by rw[upd_len,hsz]
 refine⟨w',hr,⟨_,ownsMap_sizeS h5 (by rw[hsz'];exact Nat.le_refl _),hsz',fun s=>?_,fun s=>?_⟩,hE⟩
 ·rw[has_upd];by_cases he:eqS nm s=true
  ·rw[he,Bool.or_true,<-keyS_iff.2 he];exact Maps.has_put_same h1.isMap hk _
  ·rw[Maps.has_put_other (fun hh=>he (keyS_iff.1 hh.symm)),h3];simp[he]
 ·rw[lk_upd];by_cases he:eqS nm s=true
  ·rw[if_pos he,<-keyS_iff.2 he];exact Maps.atKey_put_same h1.isMap hk _ _
  ·rw[Maps.atKey_put_other (fun hh=>he (keyS_iff.1 hh.symm)),h4,if_neg he]
def MpR (w:World)(mb:Nat)(names:List ByteArray)(vs:List Int)(U:Nat):Prop:=
 ∃m:Env,SMap w mb m/\m.length<=U/\(∀p∈m,Bdd p.2)/\∀s,hasS names s=true->lk m s=lk (names.zip vs) s
theorem MpR.ext {w w':World}{mb U:Nat}{names:List ByteArray}{vs:List Int}(h:MpR w mb names vs U){S:List Nat}(hE:Ext S w w')(hb:mb∉S):MpR w' mb names vs U:=by
 obtain⟨m,h1,h2⟩:=h;exact⟨m,h1.ext hE hb,h2⟩
theorem MpR.more {w:World}{mb U U':Nat}{names:List ByteArray}{vs:List Int}(h:MpR w mb names vs U)(hU:U<=U'):MpR w mb names vs U':=by
 obtain⟨m,h1,h2,h3⟩:=h;exact⟨m,h1,by omega,h3⟩
theorem hasS_snoc {names:List ByteArray}{nm s:ByteArray}:hasS (names ++ [nm]) s=(hasS names s||eqS s nm):=by simp[hasS]
theorem hasE_zip {names:List ByteArray}{vs:List Int}(hl:vs.length=names.length)(s:ByteArray):hasE (names.zip vs) s=hasS names s:=by
 rw[hasE_names,List.map_fst_zip (by omega)]
theorem zip_snoc {names:List ByteArray}{vs:List Int}(hl:vs.length=names.length)(nm:ByteArray)(x:Int):(names ++ [nm]).zip (vs ++ [x])=names.zip vs ++ [(nm,x)]:=by
 rw[List.zip_append hl.symm];rfl
theorem MpR.put {w:World}{mb U:Nat}{names:List ByteArray}{vs:List Int}(h:MpR w mb names vs U)(hl:vs.length=names.length)(nm:ByteArray)(x:Int)(hno:hasS names nm=false)(hs:nm.size<=1000000)(hx:Bdd x)(hU:U<=100000000) :
  ∃w',(Instr.mapUpdate 92 (.map (some mb)) (.string nm) (.int .i64 x)).run Tryz.prog w=.ok () w'/\MpR w' mb (names ++ [nm]) (vs ++ [x]) (U+1)/\Ext [mb] w w':=by
 obtain⟨m,h1,h2,h3,h4⟩:=h;obtain⟨w',hr,hM,hE⟩:=h1.upd nm x hs ⟨by have:=hx.1;omega,by have:=hx.2;omega⟩ (by omega);refine⟨w',hr,⟨_,hM,?_,fun p hp=>?_,fun s hh=>?_⟩,hE⟩
 ·rw[upd_len];split<;>omega
 ·unfold updE at hp;split at hp
  ·obtain⟨q,hq,rfl⟩:=List.mem_map.1 hp;simp only;split
   ·exact hx
   ·exact h3 q hq
  ·rcases List.mem_append.1 hp with hp|hp
   ·exact h3 p hp
   ·rw[List.mem_singleton.1 hp];exact hx
 ·rw[lk_upd,zip_snoc hl,lk_snoc,hasE_zip hl];rw[hasS_snoc] at hh;by_cases he:eqS nm s=true
  ·have:hasS names s=false:=by
    cases hq:hasS names s
    ·rfl
    ·have h5:=hasE_eq (env:=names.zip vs) he;rw[hasE_zip hl,hasE_zip hl,hq,hno] at h5;cases h5
   rw[if_pos he,this,if_neg (by simp),if_pos he]
  ·have h6:eqS s nm=false:=by rw[eqS_comm];simpa using he
   rw[h6,Bool.or_false] at hh;rw[if_neg he,hh,if_pos rfl];exact h4 s hh
theorem MpR.pop {w:World}{mb U:Nat}{names:List ByteArray}{vs:List Int}{nm:ByteArray}{x:Int}(h:MpR w mb (names ++ [nm]) (vs ++ [x]) U)(hl:vs.length=names.length):MpR w mb names vs U:=by
 obtain⟨m,h1,h2,h3,h4⟩:=h;refine⟨m,h1,h2,h3,fun s hh=>?_⟩
 rw[h4 s (by rw[hasS_snoc,hh];rfl),zip_snoc hl,lk_snoc,hasE_zip hl,hh,if_pos rfl]
theorem MpR.lt {w:World}{mb U:Nat}{names:List ByteArray}{vs:List Int}(h:MpR w mb names vs U):mb<w.heap.size:=by
 obtain⟨m,h1,-⟩:=h;exact h1.lt
theorem MpR.apart {w:World}{mb U:Nat}{names:List ByteArray}{vs:List Int}(h:MpR w mb names vs U){g:Nat}{t:TypeId}{C:Array Value}(k:Blk w g t C):mb≠g:=by
 obtain⟨m,h1,-⟩:=h;exact h1.apart k
theorem evA_agree {m:Env}{names:List ByteArray}{vs:List Int}{a:Af}(h:∀s,hasS names s=true->lk m s=lk (names.zip vs) s)(ha:affE names a=0):evA m a=evA (names.zip vs) a:=by
 have h5:=(affE_spec ha).2.2.2.2;unfold evA
 have key:∀(l:List (ByteArray×Int)) (b:Int),(∀t∈l,hasS names t.1=true)->l.foldl (fun n t=>n+t.2*lk m t.1) b=l.foldl (fun n t=>n+t.2*lk (names.zip vs) t.1) b:=by
  intro l
  induction l with
  | nil=>intro b _;rfl
  | cons t l ih=>
   intro b hl;rw[List.foldl_cons,List.foldl_cons,h t.1 (hl t (List.mem_cons_self ..))];exact ih _ fun t ht=>hl t (List.mem_cons_of_mem _ ht)
 refine key _ _ fun t ht=>?_
 have:=List.any_eq_false.1 h5 t ht;unfold strayT at this;simpa using this
theorem atM_any (a:Af)(mb U:Nat)(names:List ByteArray)(vs:List Int)(w:World)(ha:AfIn w a)(hg:affE names a=0)(hn:∀x∈names,x.size<=8)(hm:MpR w mb names vs U) :
  Calls Tryz.prog 96 #[afV a,.map (some mb)] w fun e w'=>e=.returned (.int .i64 (evA (names.zip vs) a))/\Ext [] w w':=by
 obtain⟨m,h1,h2,h3,h4⟩:=hm;have h:=atR_any a mb m w ha (AfG.of hg hn) h1 h3;rw[evA_agree h4 hg] at h;exact h
theorem lk_get {names:List ByteArray}{vs:List Int}(hl:vs.length=names.length)(hd:∀(i j:Nat) (x y:ByteArray),names[i]? = some x->names[j]? = some y->eqS x y=true->i=j):∀(i:Nat) (nm:ByteArray) (x:Int),names[i]? = some nm->vs[i]? = some x->lk (names.zip vs) nm=x:=by
 induction names generalizing vs with
 | nil=>intro i nm x h;simp at h
 | cons n names ih=>
  intro i nm x hi hx
  match vs,hl with
  | v :: vs,hl=>
   unfold lk;rw[List.zip_cons_cons,List.find?_cons];cases i with
   | zero=>
    cases hi
    cases hx
    simp[eqS_refl]
   | succ i=>
    have hne:eqS n nm=false:=by
     cases he:eqS n nm
     ·rfl
     ·have:=hd 0 (i+1) n nm rfl hi he;omega
    simp only[hne];exact ih (by simpa using hl) (fun a b x y ha hb he=>by have:=hd (a+1) (b+1) x y ha hb he;omega) i nm x hi hx
structure RtD where
 no:Nat
 vs:List Int
 buf:Int
 at_:Int
 wr:Bool
 part:Int
 inst:Int
structure RtO where
 d:RtD
 A:Option Addr
 c:Nat
def rtL (no:Nat)(A:Option Addr)(n c:Nat)(buf at_:Int)(wr:Bool)(part inst:Int):List Value:=[.int .i64 no,.slice A n c,.int .i64 buf,.int .i64 at_,.bool wr,.int .i64 part,.int .i64 inst]
def rtC (x:RtO):List Value:=rtL x.d.no x.A x.d.vs.length x.c x.d.buf x.d.at_ x.d.wr x.d.part x.d.inst
def rtOf (no:Nat)(vs:List Int)(t:Tch):RtD:=⟨no,vs,t.buf,t.at_,t.wr,if t.wr then 0 else t.part+1,t.inst⟩
theorem rtInfo:∃i,Tryz.prog.info? 118=some i/\i.zero=some (.agg (rtL 0 none 0 0 0 0 false 0 0).toArray)/\i.size=7/\i.bytes=72:=info_parts (show((Tryz.prog).info? 118).map (fun i=>(i.zero,i.size,i.bytes))=some (some (.agg (rtL 0 none 0 0 0 0 false 0 0).toArray),7,72) by kernel_rfl)
theorem rts_len (O:List RtO):(O.flatMap rtC).length=O.length*7:=by
 induction O with
 | nil=>rfl
 | cons t T ih=>rw[List.flatMap_cons,List.length_append,ih,List.length_cons,Nat.add_mul];simp[rtC,rtL];omega
def NumB (B hi:Nat)(A:Option Addr)(vs:List Int)(w:World):Prop:=vs=[]\/∃(b:Nat) (C:Array Value),A=some ⟨b,0,none⟩/\B<=b/\b<hi/\Blk w b 3 C/\∀(i:Nat) (x:Int),vs[i]? = some x->C[i]? = some (.int .i64 x)
theorem NumB.ext {B hi:Nat}{A:Option Addr}{vs:List Int}{w w':World}(h:NumB B hi A vs w){S:List Nat}(hE:Ext S w w')(hS:∀b C,B<=b->b<hi->Blk w b 3 C->b∉S):NumB B hi A vs w':=by
 rcases h with h|⟨b,C,h1,h2,h3,h4,h5⟩
 ·exact .inl h
 ·exact .inr ⟨b,C,h1,h2,h3,h4.ext hE (hS b C h2 h3 h4),h5⟩
theorem NumB.more {B hi hi':Nat}{A:Option Addr}{vs:List Int}{w:World}(h:NumB B hi A vs w)(hh:hi<=hi'):NumB B hi' A vs w:=by
 rcases h with h|⟨b,C,h1,h2,h3,h4,h5⟩
 ·exact .inl h
 ·exact .inr ⟨b,C,h1,h2,by omega,h4,h5⟩
def TouQ (tb B hi:Nat)(keep:Bool)(D:List RtD)(many count:Nat)(V:Option Nat)(w:World):Prop:=
 tb<B/\B<=w.heap.size/\∃(v:Value) (O:List RtO),v.ownBlock=V/\O.map RtO.d=D/\Blk w tb 173 #[v,.int .i64 many,.bool keep,.int .i64 count]/\w.ownsRow B 118 7 v O.length (O.flatMap rtC)/\∀x∈O,NumB B hi x.A x.d.vs w
theorem TouQ.ext {tb B hi many count:Nat}{keep:Bool}{D:List RtD}{V:Option Nat}{w w':World}(h:TouQ tb B hi keep D many count V w){S:List Nat}(hE:Ext S w w')(hS:∀x∈S,x≠tb/\V≠some x/\(x<B\/hi<=x)):TouQ tb B hi keep D many count V w':=by
 obtain⟨h0,h1,v,O,h2,h3,h4,h5,h6⟩:=h;exact⟨h0,Nat.le_trans h1 hE.size,v,O,h2,h3,h4.ext hE fun hm=>(hS _ hm).1 rfl,own_ext h5 hE fun k hk hm=>(hS _ hm).2.1 (h2.symm.trans hk),fun x hx=>(h6 x hx).ext hE fun b C hb hb2 hC hm=>by have:=(hS _ hm).2.2;omega⟩
theorem TouQ.ext0 {tb B hi many count:Nat}{keep:Bool}{D:List RtD}{V:Option Nat}{w w':World}(h:TouQ tb B hi keep D many count V w)(hE:Ext [] w w'):TouQ tb B hi keep D many count V w':=h.ext hE (by simp)
theorem TouQ.more {tb B hi hi' many count:Nat}{keep:Bool}{D:List RtD}{V:Option Nat}{w:World}(h:TouQ tb B hi keep D many count V w)(hh:hi<=hi'):TouQ tb B hi' keep D many count V w:=by
 obtain⟨h0,h1,v,O,h2,h3,h4,h5,h6⟩:=h;exact⟨h0,h1,v,O,h2,h3,h4,h5,fun x hx=>(h6 x hx).more hh⟩
theorem TouQ.own {tb B hi many count:Nat}{keep:Bool}{D:List RtD}{V:Option Nat}{w:World}(h:TouQ tb B hi keep D many count V w){g:Nat}(hg:V=some g):B<=g/\∃C,Blk w g 118 C:=by
 obtain⟨h0,h1,v,O,h2,h3,h4,h5,h6⟩:=h;exact⟨own_base h5 g (h2.trans hg),own_blks h5 (h2.trans hg)⟩
theorem TouQ.set {tb B hi many count many' count':Nat}{keep:Bool}{D:List RtD}{V:Option Nat}{w w':World}(h:TouQ tb B hi keep D many count V w)(hE:Ext [tb] w w')(hB:∀v,Blk w tb 173 #[v,.int .i64 many,.bool keep,.int .i64 count]->Blk w' tb 173 #[v,.int .i64 many',.bool keep,.int .i64 count']):TouQ tb B hi keep D many' count' V w':=by
 obtain⟨h0,h1,v,O,h2,h3,h4,h5,h6⟩:=h;have hne:∀k,B<=k->k∉[tb]:=fun k hk hm=>by rw[List.mem_singleton.1 hm] at hk;omega
 exact⟨h0,Nat.le_trans h1 hE.size,v,O,h2,h3,hB v h4,own_ext h5 hE fun k hk=>hne k (own_base h5 k hk),fun x hx=>(h6 x hx).ext hE fun b C hb _ _=>hne b hb⟩
theorem TouQ.snoc {tb B hi many count:Nat}{keep:Bool}{w w':World}{v:Value}{O:List RtO}{gz cz:Nat}(x:RtO)(h0:tb<B)(h1:B<=w.heap.size)(h5:w.ownsRow B 118 7 v O.length (O.flatMap rtC))(h6:∀x∈O,NumB B hi x.A x.d.vs w)(hx:NumB B hi x.A x.d.vs w)
  (hE:Ext (tb :: v.ownBlock.toList) w w') (hB:Blk w' tb 173 #[.slice (some ⟨gz,0,none⟩) (O.length+1) cz,.int .i64 many,.bool keep,.int .i64 count]) (hT:w'.ownsRow B 118 7 (.slice (some ⟨gz,0,none⟩) (O.length+1) cz) (O.length+1) (O.flatMap rtC ++ rtC x)) :
  TouQ tb B hi keep (O.map RtO.d ++ [x.d]) many count (some gz) w':=by
 have hn:∀y:RtO,NumB B hi y.A y.d.vs w->NumB B hi y.A y.d.vs w':=fun y hy=>hy.ext hE fun b C hb _ hC hm=>by
  rcases List.mem_cons.1 hm with h|h
  ·omega
  ·obtain⟨D,hD⟩:=own_blks h5 (Option.mem_toList.1 h);exact absurd (hD.type hC) (by decide)
 refine⟨h0,Nat.le_trans h1 hE.size,.slice (some ⟨gz,0,none⟩) (O.length+1) cz,O ++ [x],rfl,by rw[List.map_append];rfl,hB,?_,fun y hy=>?_⟩
 ·rw[List.length_append,List.length_singleton,List.flatMap_append];simpa using hT
 ·rcases List.mem_append.1 hy with hy|hy
  ·exact hn y (h6 y hy)
  ·rw[List.mem_singleton.1 hy];exact hn x hx
def LnkV (H:Nat)(V V':Option Nat):Prop:=∀g,V'=some g->V=some g\/H<=g
theorem LnkV.refl (H:Nat)(V:Option Nat):LnkV H V V:=fun g h=>.inl h
theorem LnkV.trans {H H':Nat}{U V W:Option Nat}(h:LnkV H U V)(k:LnkV H' V W)(hH:H<=H'):LnkV H U W:=fun g hg=>by
 rcases k g hg with h1|h1
 ·exact h g h1
 ·right;omega
section
def JT (w0:World)(t:Nat)(ty:TypeId)(ka kb:Nat)(cont:Bool->Bool->Array Value)(r:Nat->Bool)(w:World):Prop:=Ext [t] w0 w/\Blk w t ty (cont (r ka) (r kb))
def RT (t:Nat)(_:Nat)(w w':World):Prop:=Ext [t] w w'
section
variable {w0 w w':World} {t ka kb i:Nat} {ty:TypeId} {cont:Bool->Bool->Array Value} {r:Nat->Bool}
theorem JT.offs (h:JT w0 t ty ka kb cont r w)(ha:i≠ka)(hb:i≠kb):JT w0 t ty ka kb cont (off r i) w:=by
 have e1:off r i ka=r ka:=by unfold off;simp[Ne.symm ha]
 have e2:off r i kb=r kb:=by unfold off;simp[Ne.symm hb]
 unfold JT;rw[e1,e2];exact h
theorem JT.grow (h:JT w0 t ty ka kb cont r w)(ha:i≠ka)(hb:i≠kb)(hE:Ext [] w w'):JT w0 t ty ka kb cont (off r i) w':=by
 have e1:off r i ka=r ka:=by unfold off;simp[Ne.symm ha]
 have e2:off r i kb=r kb:=by unfold off;simp[Ne.symm hb]
 unfold JT;rw[e1,e2];exact⟨h.1.trans hE.nil,h.2.ext hE (by simp)⟩
theorem JT.seta (h:JT w0 t ty ka kb cont r w)(hab:ka≠kb)(hr:r ka=true){p:Nat}{u:Value}(hc:∀y,(cont true y).setIfInBounds p u=cont false y):JT w0 t ty ka kb cont (off r ka) (w.setCell ⟨t,p,none⟩ u):=by
 have e1:off r ka ka=false:=by unfold off;simp
 have e2:off r ka kb=r kb:=by unfold off;simp[Ne.symm hab]
 unfold JT;rw[e1,e2];obtain⟨h1,h2⟩:=h;rw[hr] at h2;exact⟨h1.trans (Ext.setAt (.inl (by simp)) (Ext.refl _ _)),h2.set_' _ _ _ (hc _)⟩
theorem JT.setb (h:JT w0 t ty ka kb cont r w)(hab:ka≠kb)(hr:r kb=true){p:Nat}{u:Value}(hc:∀x,(cont x true).setIfInBounds p u=cont x false):JT w0 t ty ka kb cont (off r kb) (w.setCell ⟨t,p,none⟩ u):=by
 have e1:off r kb kb=false:=by unfold off;simp
 have e2:off r kb ka=r ka:=by unfold off;simp[hab]
 unfold JT;rw[e1,e2];obtain⟨h1,h2⟩:=h;rw[hr] at h2;exact⟨h1.trans (Ext.setAt (.inl (by simp)) (Ext.refl _ _)),h2.set_' _ _ _ (hc _)⟩
end
theorem rgT {id:Nat}{Q:Exit->Act->World->Prop}{a:Act}{w:World}{l:List Oper}(p t ka kb:Nat)(ty:TypeId)(cont:Bool->Bool->Array Value)(kk:List (Nat×Spec))(hla:decide (ka<l.length)=true)(hlb:decide (kb<l.length)=true)
  (hn:kinds kk ka≠none) (hn2:kinds kk kb≠none) (hG:∀oi,l.toArray[ka]? = some oi->oi.guard=none) (hG2:∀oi,l.toArray[kb]? = some oi->oi.guard=none)
  (hs:∀i s j,kinds kk i=some s->j≠i->∀x w w',RT t j w w'->s.V x w->s.V x w') (h0:Blk w t ty (cont true true))
  (h:relAtU Tryz.prog l.toArray p (JT w t ty ka kb cont) (RT t) (kinds kk) (fun a w=>wpList Tryz.prog l.toArray Q (l.drop p) a w) 0 (l.take p) a (fun _ _=>True)) (hm:(Tryz.prog).follows .mixedOrders=true:=by kernel_rfl) (hB:relB l.toArray p=true:=by kernel_rfl):(Code.region id l.toArray true).wp Tryz.prog Q a w:=
 wp_region_relU p (JT w t ty ka kb cont) (RT t) (kinds kk) hm hB (fun i r w hi hg hJ=>by
  have h1:i≠ka:=by
   rintro rfl;rcases hi with hi|⟨oi,h1,h2⟩
   ·exact hn hi
   ·exact h2 (hG oi h1)
  have h2:i≠kb:=by
   rintro rfl;rcases hi with hi|⟨oi,h1,h2⟩
   ·exact hn2 hi
   ·exact h2 (hG2 oi h1)
  exact hJ.offs h1 h2) hs ⟨(Ext.refl _ _).drew,by
   have e1:(fun j=>decide (j<l.length)) ka=true:=hla;have e2:(fun j=>decide (j<l.length)) kb=true:=hlb;rw[e1,e2];exact h0.drew⟩ h
section
variable {P:Program} {ops:Array Oper} {p:Nat} {S:Nat->Option Spec} {Q:Act->World->Prop} {k:Nat} {o:Oper} {rest:List Oper} {a:Act} {F:Nat->World->Prop} {w0:World} {t ka kb:Nat} {ty:TypeId} {cont:Bool->Bool->Array Value}
theorem rel_extT (s:Spec)(hS:S k=some s)(hw:Region.wanted o (yielded ops a.tmps)=true)(hka:k≠ka)(hkb:k≠kb)
  (hh:∃(f:FuncId) (args:Array Value),(∀w,(execOp a.eval o).run P w=.ok (.enter f args) w)/\
   (∀w r,Good ops k r->JT w0 t ty ka kb cont r w->(∀e∈o.after,Region.binds .any e=true->F e.on w)->Calls P f args w fun e w'=>∃x,e=.returned (s.f x)/\s.V x w'/\Ext [] w w'))
  (h:∀x:s.α,relAtU P ops p (JT w0 t ty ka kb cont) (RT t) S Q (k+1) rest (a.put o.dst (s.f x)) (upd F k (s.V x))):relAtU P ops p (JT w0 t ty ka kb cont) (RT t) S Q k (o :: rest) a F:=by
 obtain⟨f,args,hr,hu⟩:=hh;refine relAt_callU s hS hw ⟨f,args,hr,fun w r hg hJ hf=>(hu w r hg hJ hf).mono ?_⟩ h
 rintro e w' ⟨x,he,hV,hE⟩;exact⟨x,he,hV,hJ.grow hka hkb hE,hE.nil⟩
end
def sNone:Spec:=⟨Unit,(),fun _=>undef,fun _ _=>True⟩
theorem rt_slice (w:World)(no:Nat)(A:Option Addr)(n c:Nat)(buf at_:Int)(wr:Bool)(part inst:Int):(Instr.buildSlice 48 1 #[(0,.agg (rtL no A n c buf at_ wr part inst).toArray)]).run Tryz.prog w=.ok (.slice (some ⟨w.heap.size,0,none⟩) 1 1) (w.alloc (.cells (rtL no A n c buf at_ wr part inst).toArray 118)):=by
 obtain⟨i0,hi0,hz0,hz1,hz2⟩:=rtInfo;refine run_buildSlice w _ _ 1 _ _ i0 _ Tryz.underlying48 hi0 hz0 (by rw[hz1];decide) (by rw[hz1];decide) ?_
 rw[hz1];have hz:((Array.range (1*7)).map (fun x=>(Value.agg (rtL 0 none 0 0 0 0 false 0 0).toArray).cells[x % (Value.agg (rtL 0 none 0 0 0 0 false 0 0).toArray).cells.size]!))=(rtL 0 none 0 0 0 0 false 0 0).toArray:=by kernel_rfl
 rw[hz];simp[Instr.fill,rtL,Value.cells]
end
end Go.Proofs.YtfjdmoppfbddpaaGreatDoor
