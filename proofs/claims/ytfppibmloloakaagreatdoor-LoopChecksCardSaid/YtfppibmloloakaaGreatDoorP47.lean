import Derived.Test.YtfppibmloloakaaGreatDoorP46
namespace Go.Proofs.YtfppibmloloakaaGreatDoor
open Go.RowKit Go.Proofs.Tryz
set_option linter.all false
section
structure PgA (P:Nat->Prop)(N:Nat)(w:World)(p:Pg):Prop where
 bufs:SeqA P N w p.A 4 bfC p.bs
 each:∀b∈p.bs,BfA P N w b
 cap:p.bs.length<=p.cap/\p.cap<=9223372036854775807
 body:SeqA P N w p.B 21 stC p.body
 stmt:∀s∈p.body,StA P N w s
def PgP (base g n:Nat)(w:World)(e:Ending)(w':World):Prop:=∃p:Pg,e=.returned (pgV p)/\PgA (fun b=>w.heap.size<=b) 30 w' p/\Ext [g] w w'/\Stm w' base g n
def bufA (nm:ByteArray)(z:Int)(st:Bool)(A:Option Addr)(k c:Nat):Array Value:=#[.string nm,.int .i64 z,.bool st,.slice A k c]
theorem bfInfo:∃i,Tryz.prog.info? 45=some i/\i.zero=some (.agg #[.string ⟨#[]⟩,.int .i64 0,.bool false,.slice none 0 0])/\i.size=4/\i.bytes=56:=info_parts (show((Tryz.prog).info? 45).map (fun i=>(i.zero,i.size,i.bytes))=some (some (.agg #[.string ⟨#[]⟩,.int .i64 0,.bool false,.slice none 0 0]),4,56) by kernel_rfl)
theorem bfA_slice (w:World)(nm:ByteArray)(z:Int)(st:Bool)(A:Option Addr)(k c:Nat):(Instr.buildSlice 26 1 #[(0,.agg (bufA nm z st A k c))]).run Tryz.prog w=.ok (.slice (some ⟨w.heap.size,0,none⟩) 1 1) (w.alloc (.cells (bufA nm z st A k c) 45)):=by
 obtain⟨i0,hi0,hz0,hz1,hz2⟩:=bfInfo;refine run_buildSlice w _ _ 1 _ _ i0 _ Tryz.underlying26 hi0 hz0 (by rw[hz1];decide) (by rw[hz1];decide) ?_
 rw[hz1];have hz:((Array.range (1*4)).map (fun x=>(Value.agg #[.string ⟨#[]⟩,.int .i64 0,.bool false,.slice none 0 0]).cells[x % (Value.agg #[.string ⟨#[]⟩,.int .i64 0,.bool false,.slice none 0 0]).cells.size]!))=#[.string ⟨#[]⟩,.int .i64 0,.bool false,.slice none 0 0]:=by kernel_rfl
 rw[hz];simp[Instr.fill,Value.cells,bufA]
def sBf (H:Nat)(C:Array Value):Spec:=⟨Nat,0,fun b=>.slice (some ⟨b,0,none⟩) 1 1,fun b w=>H<=b/\Blk w b 45 C⟩
theorem sBf.stays {H g:Nat}{C:Array Value}(hg:g<H):∀y w w',Ext [g] w w'->(sBf H C).V y w->(sBf H C).V y w':=fun(y:Nat) w w' hE h=>⟨h.1,h.2.ext hE (fun hm=>by have h1:y=g:=List.mem_singleton.1 hm;have h2:H<=y:=h.1;omega)⟩
theorem bfC_one (b:Bf):∀u∈bfC b,u.oneCell'=true:=by
 intro u hu;simp only[bfC,List.mem_cons,List.not_mem_nil,or_false] at hu;rcases hu with rfl|rfl|rfl|rfl<;>rfl
theorem kinds_two {a b:Nat}{x y:Spec}{R:Nat->World->World->Prop}(hx:∀j,j≠a->∀u w w',R j w w'->x.V u w->x.V u w')(hy:∀j,j≠b->∀u w w',R j w w'->y.V u w->y.V u w') :
  ∀i s j,kinds [(a,x),(b,y)] i=some s->j≠i->∀u w w',R j w w'->s.V u w->s.V u w':=fun i s j h hj=>by
 have hm:=kinds_mem h;simp only[List.mem_cons,Prod.mk.injEq,List.not_mem_nil,or_false] at hm;rcases hm with⟨rfl,rfl⟩|⟨rfl,rfl⟩
 ·exact hx j hj
 ·exact hy j hj
def JD (w0:World)(base g n:Nat)(T:List Nat)(ka kc:Nat)(r:Nat->Bool)(w:World):Prop:=(r ka=true->Ext [g] w0 w)/\Ext (g :: T) w0 w/\Stm w base g (if r kc then n+1 else n)
def RD (g:Nat)(T:List Nat)(ka:Nat)(j:Nat)(w w':World):Prop:=if j=ka then Ext T w w' else Ext [g] w w'
section
variable {w0 w w':World} {base g n ka kc i:Nat} {T:List Nat} {r:Nat->Bool}
theorem JD.grow (h:JD w0 base g n T ka kc r w)(hi:i≠ka)(hc:i≠kc)(hE:Ext [] w w'):JD w0 base g n T ka kc (off r i) w':=by
 have e:off r i ka=r ka:=by unfold off;simp[Ne.symm hi]
 have e2:off r i kc=r kc:=by unfold off;simp[Ne.symm hc]
 unfold JD;rw[e,e2];exact⟨fun hr=>(h.1 hr).trans hE.nil,h.2.1.trans hE.nil,h.2.2.ext hE (by simp) (by simp)⟩
theorem JD.call (h:JD w0 base g n T ka kc r w)(hk:kc≠ka)(hE:Ext [g] w w')(hS:Stm w' base g n):JD w0 base g n T ka kc (off r kc) w':=by
 have e:off r kc ka=r ka:=by unfold off;simp[Ne.symm hk]
 have e2:off r kc kc=false:=by unfold off;simp
 unfold JD;rw[e,e2];exact⟨fun hr=>(h.1 hr).trans hE,h.2.1.step hE fun x hx=>.inl (by rw[List.mem_singleton.1 hx];simp),hS⟩
theorem JD.app (h:JD w0 base g n T ka kc r w)(hk:ka≠kc)(hE:Ext T w w')(hg:g∉T)(hb:∀x∈T,base<=x):JD w0 base g n T ka kc (off r ka) w':=by
 have e:off r ka ka=false:=by unfold off;simp
 have e2:off r ka kc=r kc:=by unfold off;simp[Ne.symm hk]
 unfold JD;rw[e,e2];exact⟨(fun hr=>by cases hr),h.2.1.step hE fun x hx=>.inl (by simp[hx]),h.2.2.ext hE hg hb⟩
theorem RD.all {j:Nat}(h:RD g T ka j w w'):Ext (g :: T) w w':=by
 unfold RD at h;split at h
 ·exact(Ext.refl _ w).step h fun x hx=>.inl (by simp[hx])
 ·exact(Ext.refl _ w).step h fun x hx=>.inl (by rw[List.mem_singleton.1 hx];simp)
theorem RD.pre {j:Nat}(h:RD g T ka j w w')(hj:j≠ka):Ext [g] w w':=by
 unfold RD at h;rw[if_neg hj] at h;exact h
theorem rgD {id:Nat}{Q:Exit->Act->World->Prop}{a:Act}{w:World}{l:List Oper}(p ka kc base g n:Nat)(T:List Nat)(ks:List (Nat×Spec))
  (hn:kinds ks ka≠none) (hn2:kinds ks kc≠none)
  (hG:∀oi,l.toArray[ka]? = some oi->oi.guard=none) (hG2:∀oi,l.toArray[kc]? = some oi->oi.guard=none)
  (hs:∀i s j,kinds ks i=some s->j≠i->∀x w w',RD g T ka j w w'->s.V x w->s.V x w') (h0:Stm w base g (n+1))
  (h:relAtU Tryz.prog l.toArray p (JD w base g n T ka kc) (RD g T ka) (kinds ks) (fun a w=>wpList Tryz.prog l.toArray Q (l.drop p) a w) 0 (l.take p) a (fun _ _=>True)) (hm:(Tryz.prog).follows .mixedOrders=true:=by kernel_rfl) (hB:relB l.toArray p=true:=by kernel_rfl):(Code.region id l.toArray true).wp Tryz.prog Q a w:=
 wp_region_relU p (JD w base g n T ka kc) (RD g T ka) (kinds ks) hm hB (fun i r w hi hg hJ=>by
  have h1:i≠ka:=by
   rintro rfl;rcases hi with hi|⟨oi,h1,h2⟩
   ·exact hn hi
   ·exact h2 (hG oi h1)
  have h2:i≠kc:=by
   rintro rfl;rcases hi with hi|⟨oi,h1,h2⟩
   ·exact hn2 hi
   ·exact h2 (hG2 oi h1)
  exact hJ.grow h1 h2 (Ext.refl _ _)) hs ⟨fun _=>(Ext.refl _ _).drew,(Ext.refl _ _).drew,by
   split
   ·exact h0
   ·exact h0.less (by omega)⟩ h
end
section
variable {P:Program} {ops:Array Oper} {p:Nat} {S:Nat->Option Spec} {Q:Act->World->Prop} {k:Nat} {o:Oper} {rest:List Oper} {a:Act} {F:Nat->World->Prop} {w0:World} {base g n ka kc:Nat} {T:List Nat}
theorem rel_callD (s:Spec)(hS:S k=some s)(hw:Region.wanted o (yielded ops a.tmps)=true)(hk:k=kc)(hka:kc≠ka)
  (hh:∃(f:FuncId) (args:Array Value),(∀w,(execOp a.eval o).run P w=.ok (.enter f args) w)/\
   (∀w,Ext (g :: T) w0 w->Stm w base g (n+1)->(∀e∈o.after,Region.binds .any e=true->F e.on w)->Calls P f args w fun e w'=>∃x,e=.returned (s.f x)/\s.V x w'/\Ext [g] w w'/\Stm w' base g n))
  (h:∀x:s.α,relAtU P ops p (JD w0 base g n T ka kc) (RD g T ka) S Q (k+1) rest (a.put o.dst (s.f x)) (upd F k (s.V x))):relAtU P ops p (JD w0 base g n T ka kc) (RD g T ka) S Q k (o :: rest) a F:=by
 subst hk;obtain⟨f,args,hr,hu⟩:=hh;refine relAt_callU s hS hw ⟨f,args,hr,fun w r hg hJ hf=>(hu w hJ.2.1 (by have h2:=hJ.2.2;rw[if_pos hg.mine] at h2;exact h2) hf).mono ?_⟩ h
 rintro e w' ⟨x,he,hV,hE,hS'⟩;exact⟨x,he,hV,hJ.call hka hE hS',by unfold RD;rw[if_neg hka];exact hE⟩
theorem rel_newD (s:Spec)(hS:S k=some s)(hw:Region.wanted o (yielded ops a.tmps)=true)(hk:k≠ka)(hk2:k≠kc)
  (hr:∀w,Ext (g :: T) w0 w->(∀e∈o.after,Region.binds .any e=true->F e.on w)->∃x ob,(execOp a.eval o).run P w=.ok (.value (s.f x)) (w.alloc ob)/\s.V x (w.alloc ob))
  (h:∀x:s.α,relAtU P ops p (JD w0 base g n T ka kc) (RD g T ka) S Q (k+1) rest (a.put o.dst (s.f x)) (upd F k (s.V x))):relAtU P ops p (JD w0 base g n T ka kc) (RD g T ka) S Q k (o :: rest) a F:=
 rel_newU s hS hw (fun w ob r hg hJ=>hJ.grow hk hk2 ((Ext.refl _ _).alloc _)) (fun w ob=>by unfold RD;rw[if_neg hk];exact((Ext.refl _ _).alloc _)) (fun w r hg hJ hf=>hr w hJ.2.1 hf) h
end
section
variable {ops:Array Oper} {p:Nat} {S:Nat->Option Spec} {Q:Act->World->Prop} {k:Nat} {o:Oper} {rest:List Oper} {a:Act} {F:Nat->World->Prop} {w0:World} {base g n ka kc:Nat} {T:List Nat}
theorem rel_appD (j b:Nat)(t B sz:Nat)(e:TypeId)(i:TypeInfo)(z:Value)(bytes:Nat)(v:Value)(m c:Nat)(l:List Value)(s x:Operand)(X9:Nat->List Value->World->Prop)(X:List Value->Nat->World->Prop)(V9:Nat->World->Prop)
  (hS:S k=some (sApN B e sz m l X)) (hgd:o.guard=none) (ho:o.op=.call {callee:=.builtin .append,args:=#[s,x],argTypes:=#[t,t] })
  (ht:Tryz.prog.underlying t=some (.slice e)) (hi:Tryz.prog.info? e=some i) (hz:i.zero=some z) (hsize:i.size=sz) (hby:i.bytes=bytes) (hzs:z.cells.size=sz) (hsz:0<sz)
  (hs:a.eval s=v) (hx:a.eval x=.slice (some ⟨b,0,none⟩) 1 c) (hT:T=v.ownBlock.toList) (hk:k=ka) (hkc:ka≠kc) (hgT:g∉T) (hbT:∀x∈T,base<=x)
  (hv:∀w,Ext [g] w0 w->w.ownsRow B e sz v m l)
  (hj:o.after.any (fun e=>Region.binds .any e&&e.on==j)=true) (hF:F j=V9 b) (hV9:∀w,V9 b w->∃us,us.length=1*sz/\(∀j u,us[j]? = some u->w.cell? ⟨b,j,none⟩=some u)/\(∀u∈us,u.oneCell'=true)/\X9 b us w)
  (hX:∀y g w w',X9 b y w->Ext T w w'->(v.ownBlock=some g\/g=w.heap.size)->g<w'.heap.size->X y g w')
  (h63:m+1<=maxLen) (hbytes:(m+1)*bytes<=140737488355328) (hbase:B<=w0.heap.size)
  (h:∀u:Nat×Nat,relAtU Tryz.prog ops p (JD w0 base g n T ka kc) (RD g T ka) S Q (k+1) rest (a.put o.dst (.slice (some ⟨u.1,0,none⟩) (m+1) u.2)) (upd F k ((sApN B e sz m l X).V u))) :
  relAtU Tryz.prog ops p (JD w0 base g n T ka kc) (RD g T ka) S Q k (o :: rest) a F:=by
 subst hT;subst hk;refine relAt_valueU _ hS (by simp[Region.wanted,hgd]) (fun w q hgo hJ hf=>?_) h
 have h9:=get_after hf j hj;rw[hF] at h9;obtain⟨us,hus,hu,hu1,hXu⟩:=hV9 w h9;obtain⟨g8,cap,w',hr,hro,hg,hat,hlt⟩:=run_append_lies (P:=Tryz.prog) w t o.type B e i z sz bytes ht hi hz hsize hby hzs hsz v m l (hv w (hJ.1 hgo.mine)) ⟨b,0,none⟩ 1 c us hus (fun j u hj=>by rw[Addr.add_mk,Nat.zero_add];exact hu j u hj) hu1 (by decide) h63 hbytes (Nat.le_trans hbase hJ.2.1.size) _ rfl;have hE:Ext v.ownBlock.toList w w':=(Ext.refl _ w).grown hg (fun k hk=>.inl (by rw[hk];simp));refine⟨(g8,cap),w',?_,⟨us,hX _ _ _ _ hXu hE hat hlt,hro⟩,hJ.app hkc hE hgT hbT,by unfold RD;rw[if_pos rfl];exact hE⟩
 unfold execOp;simp only[ho,resolve,invoke,builtin,Sem.run_bind,Sem.run_pure,Result.andThen_ok,List.map_toArray,List.map_cons,List.map_nil,hs,hx,hr];rfl
end
def bfX (v:Value)(H9:Nat)(b:Bf)(ys:List Value)(g:Nat)(w:World):Prop:=ys=bfC b/\(v.ownBlock=some g\/H9<=g)
theorem BD_le {d:Nat}(h:d<=3):BD d<=BD 3:=Nat.mul_le_mul_left _ (Nat.pow_le_pow_right (by omega) h)
theorem own_cap {w:World}{B e s n c:Nat}{A:Option Addr}{xs:List Value}(h:w.ownsRow B e s (.slice A n c) n xs):n<=c/\c<=9223372036854775807:=by
 rcases h.2 with⟨h1,h2⟩|⟨g,cap,cur,h1,-,-,h2,h3,-⟩
 ·cases h1;exact⟨Nat.le_refl _,by omega⟩
 ·cases h1;exact⟨h2,h3⟩
theorem own_low {w:World}{B C e s n:Nat}{v:Value}{xs:List Value}(h:w.ownsRow B e s v n xs)(hC:C<=B):w.ownsRow C e s v n xs:=
 ⟨h.1,h.2.imp id fun⟨g,cap,cur,h1,h2,h3⟩=>⟨g,cap,cur,h1,Nat.le_trans hC h2,h3⟩⟩
theorem PrS.bldp {w wx:World}{H base g pb n rb:Nat}{A:Option Addr}{c:Nat}{bs:List Bf}(h:PrS w H base g pb n rb (.slice A bs.length c) bs wx)(hb:1<=bs.length/\bs.length<=9):Bld wx base g pb n A c bs (.slice none 0 0) [] 0:=
 ⟨h.stm,h.blk,by have:=h.bw;have:=h.rb0;have:=h.rbp;omega,own_low h.own (by have:=h.bw;have:=h.rb0;have:=h.rbp;have:=h.pbH;omega),own_none _ _ _ _,hb.1,hb.2,h.siz,by simp⟩
theorem PrS.more2 {w wx wy:World}{H base g pb n m rb:Nat}{v:Value}{bs:List Bf}(h:PrS w H base g pb n rb v bs wx)(hE:Ext (g :: v.ownBlock.toList) wx wy)(hS:Stm wy base g m){g8 c8:Nat}{b:Bf}(hO:wy.ownsRow H 45 4 (.slice (some ⟨g8,0,none⟩) (bs.length+1) c8) (bs.length+1) (bs.flatMap bfC ++ bfC b))(hg8:v.ownBlock=some g8\/wx.heap.size<=g8)
  (hb:BfA (fun q=>H<=q/\v.ownBlock≠some q) 20 wx b) (hz:1<=b.size/\b.size<=1000):PrS w H base g pb m rb (.slice (some ⟨g8,0,none⟩) (bs.length+1) c8) (bs ++ [b]) (wy.setCell ⟨pb,1,none⟩ (.slice (some ⟨g8,0,none⟩) (bs.length+1) c8)):=by
 have hE2:Ext [pb] wy (wy.setCell ⟨pb,1,none⟩ (.slice (some ⟨g8,0,none⟩) (bs.length+1) c8)):=Ext.setAt (.inl (by simp)) (Ext.refl _ _);have g0:=h.g0;have h1:=h.rb0;have h2:=h.rbp;have h3:=h.pbH;have hbw:=h.bw;have hq:∀q∈g :: v.ownBlock.toList,q=g\/H<=q:=fun q hq=>(List.mem_cons.1 hq).imp id fun hq=>own_base h.own q (Option.mem_toList.1 hq)
 have hq8:H<=g8:=own_base hO g8 rfl;have hp:Blk wy pb 188 _:=h.blk.ext hE fun hm=>by have:=hq _ hm;omega
 have step:∀z,BfA (fun q=>H<=q/\v.ownBlock≠some q) 20 wx z->BfA (fun q=>H<=q/\(Value.slice (some ⟨g8,0,none⟩) (bs.length+1) c8).ownBlock≠some q) 20 (wy.setCell ⟨pb,1,none⟩ (.slice (some ⟨g8,0,none⟩) (bs.length+1) c8)) z:=fun z hz=>by
  have z1:=BfA.mono (Q:=fun q=>H<=q/\q≠g8/\v.ownBlock≠some q) (fun b hb hh=>⟨hh.1,(by rintro rfl;rcases hg8 with e|e;exact hh.2 e;omega),hh.2⟩) (Nat.le_refl _) hz
  have z2:=BfA.ext hE (fun y hy hh=>by
   rcases List.mem_cons.1 hy with rfl|hy
   ·have:=hh.1;omega
   ·exact hh.2.2 (Option.mem_toList.1 hy)) z1
  have z3:=BfA.ext hE2 (fun y hy hh=>by rw[List.mem_singleton.1 hy] at hh;have:=hh.1;omega) z2;exact BfA.mono (fun b _ hh=>⟨hh.1,fun e=>by cases e;exact hh.2.1 rfl⟩) (Nat.le_refl _) z3
 refine⟨(h.ext.step hE fun q hqq=>by rcases hq q hqq with rfl|hh;exact .inl (by simp);exact .inr (by omega)).step hE2 fun y hy=>.inr (by rw[List.mem_singleton.1 hy];omega),hS.ext hE2 (by rw[List.mem_singleton];omega) (fun y hy=>by rw[List.mem_singleton.1 hy];omega),
  hp.set_' 1 _ _ rfl,(h.res.ext hE (fun hm=>by have:=hq _ hm;omega)).ext hE2 (by rw[List.mem_singleton];omega),?_,fun x hx=>?_,fun x hx=>?_,h.rb0,h.rbp,h.pbH,h.g0,h.bw,Nat.le_trans h.hH (Nat.le_trans hE.size hE2.size)⟩
 ·rw[List.length_append,List.flatMap_append];have e:List.flatMap bfC [b]=bfC b:=by simp
  rw[e];exact own_ext hO hE2 fun q hqq=>by have:=own_base hO q hqq;rw[List.mem_singleton];omega
 ·rcases List.mem_append.1 hx with hx|hx
  ·exact step x (h.kid x hx)
  ·rw[List.mem_singleton.1 hx];exact step b hb
 ·rcases List.mem_append.1 hx with hx|hx
  ·exact h.siz x hx
  ·rw[List.mem_singleton.1 hx];exact hz
def sNumL (H:Nat)(xs:List Int):Spec:=⟨Nat,0,fun b=>.slice (some ⟨b,0,none⟩) xs.length xs.length,fun b w=>H<=b/\Blk w b 3 (Nums xs)⟩
theorem rel_sayD {P:Program}{ops:Array Oper}{p:Nat}{S:Nat->Option Spec}{Q:Act->World->Prop}{k:Nat}{o:Oper}{rest:List Oper}{a:Act}{F:Nat->World->Prop}{w0:World}{base g n ka kc:Nat}{T:List Nat}
  (s:Spec) (x:s.α) (hS:S k=some s) (hw:Region.wanted o (yielded ops a.tmps)=true) (hk:k≠ka) (hk2:k≠kc)
  (hr:∀w,(execOp a.eval o).run P w=.ok (.value (s.f x)) w) (hV:∀w,(∀e∈o.after,Region.binds .any e=true->F e.on w)->s.V x w)
  (h:∀x:s.α,relAtU P ops p (JD w0 base g n T ka kc) (RD g T ka) S Q (k+1) rest (a.put o.dst (s.f x)) (upd F k (s.V x))):relAtU P ops p (JD w0 base g n T ka kc) (RD g T ka) S Q k (o :: rest) a F:=
 relAt_valueU s hS hw (fun w n hg hJ hf=>⟨x,w,hr w,hV w hf,hJ.grow hk hk2 (Ext.refl _ _),by unfold RD;rw[if_neg hk];exact Ext.refl _ _⟩) h
theorem kinds_five {a b c d e:Nat}{x y z q v:Spec}{R:Nat->World->World->Prop}(hx:∀j,j≠a->∀u w w',R j w w'->x.V u w->x.V u w')(hy:∀j,j≠b->∀u w w',R j w w'->y.V u w->y.V u w')(hz:∀j,j≠c->∀u w w',R j w w'->z.V u w->z.V u w')(hq:∀j,j≠d->∀u w w',R j w w'->q.V u w->q.V u w')(hv:∀j,j≠e->∀u w w',R j w w'->v.V u w->v.V u w') :
  ∀i s j,kinds [(a,x),(b,y),(c,z),(d,q),(e,v)] i=some s->j≠i->∀u w w',R j w w'->s.V u w->s.V u w':=fun i s j h hj=>by
 have hm:=kinds_mem h;simp only[List.mem_cons,Prod.mk.injEq,List.not_mem_nil,or_false] at hm;rcases hm with⟨rfl,rfl⟩|⟨rfl,rfl⟩|⟨rfl,rfl⟩|⟨rfl,rfl⟩|⟨rfl,rfl⟩
 ·exact hx j hj
 ·exact hy j hj
 ·exact hz j hj
 ·exact hq j hj
 ·exact hv j hj
def sBz (nm:ByteArray):Spec:=⟨Int,1,fun z=>.agg (bufA nm z false none 0 0),fun z _=>1<=z/\z<=1000⟩
def sBfZ (H:Nat)(nm:ByteArray):Spec:=⟨Nat×Int,(0,0),fun u=>.slice (some ⟨u.1,0,none⟩) 1 1,fun u w=>H<=u.1/\Blk w u.1 45 (bufA nm u.2 false none 0 0)/\1<=u.2/\u.2<=1000⟩
def bfXZ (v:Value)(H9:Nat)(nm:ByteArray)(ys:List Value)(g:Nat)(w:World):Prop:=∃z:Int,ys=bfC ⟨nm,z,false,none,0,[]⟩/\1<=z/\z<=1000/\(v.ownBlock=some g\/H9<=g)
set_option maxHeartbeats 16000000 in
set_option maxRecDepth 100000 in
theorem gprogram_any (base g n:Nat)(w:World)(h:Stm w base g (n+BD 3+2000)) :
  Calls Tryz.prog 48 #[.pointer (some ⟨g,0,none⟩)] w (PgP base g n w):=by
 have HS:=hd h;have hg:=h.lt;have hbg:=h.base;clear h;go_enter Tryz.func48,Tryz.ntmps48
 go_upto_region 2 with fail
 have HE1:=hd (((Ext.refl [g] w).alloc (.cells #[.slice none 0 0,.slice none 0 0] 29)).alloc (.cells #[.pointer (some ⟨g,0,none⟩),.slice none 0 0,.slice none 0 0,.slice none 0 0,.int .i64 0] 188));have HR1:=hd ((Blk.new w 29 #[.slice none 0 0,.slice none 0 0]).alloc (.cells #[.pointer (some ⟨g,0,none⟩),.slice none 0 0,.slice none 0 0,.slice none 0 0,.int .i64 0] 188));have HP1:=hd (Blk.new (w.alloc (.cells #[.slice none 0 0,.slice none 0 0] 29)) 188 #[.pointer (some ⟨g,0,none⟩),.slice none 0 0,.slice none 0 0,.slice none 0 0,.int .i64 0]);have HS1:=hd ((HS.o.alloc (.cells #[.slice none 0 0,.slice none 0 0] 29)).alloc (.cells #[.pointer (some ⟨g,0,none⟩),.slice none 0 0,.slice none 0 0,.slice none 0 0,.int .i64 0] 188));rw[alloc_size] at HP1;have hsz:((w.alloc (.cells #[.slice none 0 0,.slice none 0 0] 29)).alloc (.cells #[.pointer (some ⟨g,0,none⟩),.slice none 0 0,.slice none 0 0,.slice none 0 0,.int .i64 0] 188)).heap.size=w.heap.size+2:=by rw[alloc_size,alloc_size]
 generalize World.alloc (World.alloc w _) _=w1 at *;have HO1:Hd (PrS w (w.heap.size+2) base g (w.heap.size+1) (n+BD 3+2000) w.heap.size (.slice none 0 0) [] w1):=hd ⟨HE1.o,HS1.o,HP1.o,HR1.o,own_none _ _ _ _,fun b hb=>(by cases hb),fun b hb=>(by cases hb),Nat.le_refl _,by omega,by omega,hg,by omega,by omega⟩;clear HE1 HR1 HP1 HS1 hsz;generalize hrb:w.heap.size=rb at *;generalize hpb:rb+1=pb at *;generalize hH:rb+2=H at *;go_wp2_with fail
 refine(range_any base g (n+BD 3+1999) 2 4 w1 HO1.o.stm (by omega) (by omega)).mono ?_
 rintro e w2 ⟨r,rfl,hr,hE,hS⟩;have HO2:=hd (HO1.o.draw hE hS);obtain⟨nb,rfl⟩:∃k:Nat,r=k:=⟨r.toNat,by omega⟩;have hnb:2<=nb/\nb<=4:=by omega
 clear hE hS hr HO1;go_wp2_with fail
 go_loopw [11] (fun i wr=>∃(k:Nat) (v:Value) (bs:List Bf),i=.int .i64 k/\k<=nb/\Hd (bs.length=k)/\Hd (PrS w H base g pb (n+BD 3+1000+200*(4-k)) rb v bs wr)) (fun i _=>(nb-intOf i).toNat)
 case atStart=>exact⟨0,_,[],rfl,Nat.zero_le _,hd rfl,hd (HO2.o.less (by omega))⟩
 case round=>
  obtain⟨k,v,bs,rfl,hk,HKL,HO⟩:=hrel;by_cases hlt:k<nb
  ·have hlti:(k:Int)<nb:=by omega
   have HN4:=hd (Blk.new wr 3 (Nums [1,3,5,6,8,12]));have hE4:Ext [] wr (wr.alloc (.cells (Nums [1,3,5,6,8,12]) 3)):=(Ext.refl _ _).alloc _;have HL4:=hd (HO.o.draw hE4.nil (HO.o.stm.ext hE4 (by simp) (by simp)));have hg3:=HO.o.stm.lt;clear hE4;simp only[Nums,List.map_cons,List.map_nil] at HN4 HL4;have hk9:k<=4:=by omega
   go_upto_block 1 with fail
   go_cut [] (fun wx=>∃(v':Value) (b:Bf),Hd (PrS w H base g pb (n+BD 3+1000+200*(4-(k+1))) rb v' (bs ++ [b]) wx))
   case first=>
    go_upto_block 2 with fail
    refine(pick_any base g (n+BD 3+1000+200*(4-(k+1))+190) wr.heap.size 6 3 [1,3,5,6,8,12] _ (HL4.o.stm.less (by omega)) HN4.o (by omega) (by decide)).mono ?_
    rintro e w5 ⟨z,rfl,hz,hE,hS⟩;have HL5:=hd (HL4.o.draw hE hS);have hz1:1<=z/\z<=12:=by simp at hz;omega
    clear hE hS hz HN4 HL4 HO;go_upto_region 6 with fail
    generalize hnm:Utf8.encode _=nm;have HNM:Hd (nm.size<=20):=hd (by rw[<-hnm];exact Nat.le_trans (encode_size_le _) (by omega));clear hnm;have hE6:Ext [] w5 (w5.alloc (.cells #[.string nm,.int .i64 z,.bool false,.slice none 0 0] 45)):=(Ext.refl _ _).alloc _;have HX6:=hd (Blk.new w5 45 #[.string nm,.int .i64 z,.bool false,.slice none 0 0]);have HL6:=hd (HL5.o.draw hE6.nil (HL5.o.stm.ext hE6 (by simp) (by simp)));have hx6:w5.heap.size<(w5.alloc (.cells #[.string nm,.int .i64 z,.bool false,.slice none 0 0] 45)).heap.size:=by rw[alloc_size];omega
    have HV5:Hd (∀q,v.ownBlock=some q->q<w5.heap.size):=hd fun q hq=>(HL5.o.own.lt q hq).2
    have hH5:=HL5.o.hH;have HK6:Hd (∀b∈bs,BfA (fun x=>(H<=x/\v.ownBlock≠some x)/\x≠w5.heap.size) 20 (w5.alloc (.cells #[.string nm,.int .i64 z,.bool false,.slice none 0 0] 45)) b):=hd fun b hb=>BfA.ext hE6 (by simp) (BfA.mono (fun x hx hh=>⟨hh,by omega⟩) (Nat.le_refl _) (HL5.o.kid b hb))
    clear hE6 HL5;generalize World.alloc w5 _=w6 at *;generalize hxb:w5.heap.size=xb at *;clear hxb;have hgx:g<xb:=by have:=HL6.o.g0;have:=HL6.o.rb0;have:=HL6.o.rbp;have:=HL6.o.pbH;omega
    go_upto_block 2 with fail
    refine(next_any base g (n+BD 3+1000+200*(4-(k+1))+180) 5 w6 (HL6.o.stm.less (by omega)) (by omega)).mono ?_
    rintro e w7 ⟨r,rfl,hr,hE,hS⟩;have HL7:=hd (HL6.o.draw hE hS);have HX7:=hd (HX6.o.ext hE (by rw[List.mem_singleton];omega));have HK7:Hd (∀b∈bs,BfA (fun x=>(H<=x/\v.ownBlock≠some x)/\x≠xb) 20 w7 b):=hd fun b hb=>BfA.ext hE (fun y hy hh=>by rw[List.mem_singleton.1 hy] at hh;have:=hh.1.1;have:=HL6.o.g0;have:=HL6.o.rb0;have:=HL6.o.rbp;have:=HL6.o.pbH;omega) (HK6.o b hb)
    have hx7:xb<w7.heap.size:=Nat.lt_of_lt_of_le hx6 hE.size;clear hE hS HX6 HL6 hx6 HK6;go_upto_block 2 with fail
    go_cut [] (fun wx=>∃(st:Bool) (A:Option Addr) (c:Nat) (xs:List Int),Hd (PrS w H base g pb (n+BD 3+1000+200*(4-(k+1))+10) rb v bs wx)/\Hd (Blk wx xb 45 (bufA nm z st A xs.length c))/\Hd (SeqA (fun b=>xb<b) 20 wx A 1 inC xs))
    case first=>
     have hvx:v.ownBlock≠some xb:=fun e=>by have:=HV5.o _ e;omega
     have set2:∀(wx:World) (m:Nat) (C:Array Value) (i:Nat) (y:Value),PrS w H base g pb m rb v bs wx->Blk wx xb 45 C->(∀b∈bs,BfA (fun x=>(H<=x/\v.ownBlock≠some x)/\x≠xb) 20 wx b)->
       PrS w H base g pb m rb v bs (wx.setCell ⟨xb,i,none⟩ y):=fun wx m C i y hp hb hk=>hp.far (q:=xb) (Ext.setAt (.inl (by simp)) (Ext.refl _ _)) hH5 hvx hk
     have HSET:=hd set2;clear set2;have qx:=HX7.o.cell;have qxf:=HX7.o.frozen;have hr5:r=0\/r=1\/r=2\/r=3\/r=4:=by omega
     clear hr;rcases hr5 with rfl|rfl|rfl|rfl|rfl
     ·go_wp2_with fail
      go_meet
      exact⟨false,none,0,[],hd (HL7.o.less (by omega)),HX7,hd (SeqA.nil ..)⟩
     ·go_upto_region 11 with fail
      have HX8:=hd (HX7.o.set_' 2 (.bool true) (bufA nm z true none 0 0) rfl);have HL8:=hd (HSET.o _ _ _ 2 (.bool true) HL7.o HX7.o HK7.o);have HE8:Hd (Ext [xb] w7 (w7.setCell ⟨xb,2,none⟩ (.bool true))):=hd (Ext.setAt (.inl (by simp)) (Ext.refl _ _));have HK8:Hd (∀b∈bs,BfA (fun x=>(H<=x/\v.ownBlock≠some x)/\x≠xb) 20 (w7.setCell ⟨xb,2,none⟩ (.bool true)) b):=hd fun b hb=>BfA.ext HE8.o (fun y hy hh=>hh.2 (List.mem_singleton.1 hy)) (HK7.o b hb)
      have hx8:xb<(w7.setCell ⟨xb,2,none⟩ (.bool true)).heap.size:=Nat.lt_of_lt_of_le hx7 HE8.o.size;clear qx qxf HX7 HL7 HE8 HK7 hx7;generalize World.setCell w7 _ _=w8 at *;have qx:=HX8.o.cell;have qxf:=HX8.o.frozen;unfold bufA at qx;obtain⟨zn,rfl⟩:∃k:Nat,z=k:=⟨z.toNat,by omega⟩;go_wp2_with fail
      refine(gwords_any base g (n+BD 3+1000+200*(4-(k+1))+70) zn (by omega) w8 (HL8.o.stm.less (by omega))).mono ?_
      rintro e w9 ⟨A,c,xs,rfl,hq,hE,hS⟩;have HL9:=hd (HL8.o.draw hE hS);have HX9:=hd (HX8.o.ext hE (by rw[List.mem_singleton];omega));have HK9:Hd (∀b∈bs,BfA (fun x=>(H<=x/\v.ownBlock≠some x)/\x≠xb) 20 w9 b):=hd fun b hb=>BfA.ext hE (fun y hy hh=>by rw[List.mem_singleton.1 hy] at hh;have:=hh.1.1;have:=HL8.o.g0;have:=HL8.o.rb0;have:=HL8.o.rbp;have:=HL8.o.pbH;omega) (HK8.o b hb)
      have HQ9:Hd (SeqA (fun b=>xb<b) 20 w9 A 1 inC xs):=hd (SeqA.mono hq (fun b _ hb=>by omega) (Nat.le_refl _));have hx9:xb<w9.heap.size:=Nat.lt_of_lt_of_le hx8 hE.size;clear qx qxf hq hE hS HX8 HL8 HK8 hx8;have qx:=HX9.o.cell;have qxf:=HX9.o.frozen;unfold bufA at qx;have HX10:=hd (HX9.o.set_' 3 (.slice A xs.length c) (bufA nm zn true A xs.length c) rfl);have HL10:=hd (HSET.o _ _ _ 3 (.slice A xs.length c) HL9.o HX9.o HK9.o);have HE10:Hd (Ext [xb] w9 (w9.setCell ⟨xb,3,none⟩ (.slice A xs.length c))):=hd (Ext.setAt (.inl (by simp)) (Ext.refl _ _));have HQ10:=hd (SeqA.ext HQ9.o HE10.o (fun y hy=>by rw[List.mem_singleton.1 hy];omega));go_wp2_with fail
      go_meet
      exact⟨true,A,c,xs,hd (HL10.o.less (by omega)),HX10,HQ10⟩
     all_goals
      have HX8:=hd (HX7.o.set_' 2 (.bool true) (bufA nm z true none 0 0) rfl);have HL8:=hd (HSET.o _ _ _ 2 (.bool true) HL7.o HX7.o HK7.o);go_wp2_with fail
      go_meet
      exact⟨true,none,0,[],hd (HL8.o.less (by omega)),HX8,hd (SeqA.nil ..)⟩
    case rest=>
     obtain⟨st,A,c,xs,HL8,HX8,HD8⟩:=hcut;clear HX7 HL7 HK7 hx7 hr;obtain⟨vA,vc,rfl,-,-⟩:=own_form HL8.o.own;go_wp2_with fail
     generalize hH9:wc.heap.size=H9 at *;have HH9:=hd hH9;have HGH:Hd (g<H9):=hd (by rw[<-hH9];exact HL8.o.stm.lt);have HVB:Hd (∀q,(Value.slice vA bs.length vc).ownBlock=some q->q<xb):=hd fun q hq=>HV5.o q hq
     clear hH9;have HTT:Hd (∀q∈(Value.slice vA bs.length vc).ownBlock.toList,H<=q/\q<xb):=hd fun q hq=>⟨own_base HL8.o.own q (Option.mem_toList.1 hq),HVB.o q (Option.mem_toList.1 hq)⟩
     have HXW:Hd (xb<H9):=hd (by have:=HX8.o.lt;have:=HH9.o;omega);have HPT:Hd (pb∉(Value.slice vA bs.length vc).ownBlock.toList):=hd fun hm=>by have:=(HTT.o _ hm).1;have:=HL8.o.pbH;omega
     have HXT:Hd (xb∉(Value.slice vA bs.length vc).ownBlock.toList):=hd fun hm=>by have:=(HTT.o _ hm).2;omega
     have hks:bs.length<4:=by rw[HKL.o];omega
     refine rgA 9 8 (Value.slice vA bs.length vc).ownBlock.toList [(7,sBf H9 (bufA nm z st A xs.length c)),(8,sApN H 45 4 bs.length (bs.flatMap bfC) (bfX (.slice vA bs.length vc) H9 ⟨nm,z,st,A,c,xs⟩))] rfl (by simp[kinds]) (fun oi h=>by cases h;rfl) ?_ ?_
     ·refine kinds_two (fun j hj (u:Nat) w w' hR h=>?_) fun j hj u w w' hR h=>?_
      ·exact⟨h.1,h.2.ext hR.all fun hm=>by have h1:=(HTT.o _ hm).2;have h2:H9<=u:=h.1;have:=HXW.o;omega⟩
      ·obtain⟨ys,h1,h2⟩:=h;exact⟨ys,h1,own_ext h2 (hR.pre hj) (by simp)⟩
     simp only[List.take_succ_cons,List.take_zero,List.drop_succ_cons,List.drop_zero]
     repeat
      refine relAt_detU rfl rfl ?_
      apply Exists.intro
      refine⟨fun wr nr hg hJ=>?_,?_⟩
      ·have hA:=hJ.all;have hB:=HL8.o.blk.ext hA HPT.o;have hX:=HX8.o.ext hA HXT.o;have qp:=hB.cell;have qpl:=hB.lt;have qx:=hX.cell;have qxl:=hX.lt;unfold bufA at qx;clear hA hB hX hg;clear hJ;(go_simp;try go_bits)
       first|rfl|exact⟨rfl,rfl⟩
      simp only[Act.put,List.setIfInBounds_toArray,List.set_cons_succ,List.set_cons_zero]
     refine rel_newA (sBf H9 (bufA nm z st A xs.length c)) rfl rfl (by decide) (fun wq r hg hJ hf=>?_) ?_
     ·refine⟨wq.heap.size,.cells (bufA nm z st A xs.length c) 45,?_,by have:=hJ.all.size;show H9<=wq.heap.size;have:=HH9.o;omega,Blk.new _ _ _⟩
      refine exec_buildSlice rfl _ wq _ _ (.agg (bufA nm z st A xs.length c)) ?_ ?_
      ·rfl
      ·exact bfA_slice wq nm z st A xs.length c
     intro (kb:Nat);simp only[Act.put,List.setIfInBounds_toArray,List.set_cons_succ,List.set_cons_zero];dsimp only[sBf];obtain⟨i0,hi0,hz0,hz1',hz2⟩:=bfInfo;refine rel_appN 7 kb 26 H 4 45 i0 _ 56 (.slice vA bs.length vc) bs.length 1 (bs.flatMap bfC) _ _ (fun b ys w=>H9<=w.heap.size/\ys=bfC ⟨nm,z,st,A,c,xs⟩) (bfX (.slice vA bs.length vc) H9 ⟨nm,z,st,A,c,xs⟩) (sBf H9 (bufA nm z st A xs.length c)).V rfl rfl rfl (by kernel_rfl) hi0 hz0 hz1' hz2 rfl (by decide) rfl rfl rfl rfl ?_ (by kernel_rfl) rfl ?_ ?_ ?_ ?_ ?_ ?_
     ·exact fun wr hE=>own_ext HL8.o.own hE (by simp)
     ·exact fun w ⟨h0,h1⟩=>⟨_,rfl,fun j u hj=>by rw[h1.cell,<-Array.getElem?_toList];exact hj,bfC_one _,Nat.le_trans h0 (Nat.le_of_lt h1.lt),rfl⟩
     ·rintro y g8 w8 w9 ⟨h0,rfl⟩ hE hg hlt;exact⟨rfl,hg.imp id (fun h=>by omega)⟩
     ·unfold maxLen;omega
     ·omega
     ·have:=HH9.o;have:=HL8.o.hH;omega
     intro u9;simp only[Act.put,List.setIfInBounds_toArray,List.set_cons_succ,List.set_cons_zero];refine relAt_nilU (fun w8 r hr hJ hF=>?_)
     have h10:(sApN H 45 4 bs.length (bs.flatMap bfC) (bfX (.slice vA bs.length vc) H9 ⟨nm,z,st,A,c,xs⟩)).V u9 w8:=hF 8;obtain⟨g8,c8⟩:=u9;obtain⟨ys,⟨rfl,hloc⟩,ho8⟩:=h10;have HE8:=hd hJ.all;have HBA:Hd (BfA (fun q=>H<=q/\(Value.slice vA bs.length vc).ownBlock≠some q) 20 wc ⟨nm,z,st,A,c,xs⟩):=hd ⟨SeqA.mono HD8.o (fun b _ hb=>⟨by omega,fun e=>by have:=HVB.o b e;omega⟩) (Nat.le_refl _),HNM.o⟩;have HO9:=hd ((HL8.o.less (m:=n+BD 3+1000+200*(4-(k+1))) (by omega)).more HE8.o ho8 (hloc.imp id fun e=>by have:=HH9.o;omega) HBA.o (show(1:Int)<=z/\z<=1000 by omega));have hb8:=HL8.o.blk.ext HE8.o HPT.o;have qp:=hb8.cell;have qpf:=hb8.frozen;have qpl:=hb8.lt;clear hF hJ hr ho8 hloc hb8;dsimp only[sApN];go_wp2_with fail
     go_meet
     exact⟨_,_,HO9⟩
   case rest=>
    obtain⟨v',b,HO9⟩:=hcut;clear HN4 HL4 HO;go_wp2_with fail
    go_roundw
    case rel=>exact⟨k+1,_,bs ++ [b],by go_num,by omega,hd (by rw[List.length_append,HKL.o];rfl),HO9⟩
    case measure=>simp[intOf];omega
  ·have hkn:k=nb:=by omega
   have hlti:¬(k:Int)<nb:=by omega
   subst hkn;have HO3:=hd (HO.o.less (m:=n+BD 3+1000) (by omega));have hbl:2<=bs.length/\bs.length<=4:=by rw[HKL.o];exact hnb
   clear HO HO2;go_upto_if 49 with fail
   refine(flip_any base g (n+BD 3+900) 2 wr (HO3.o.stm.less (by omega)) (by omega)).mono ?_
   rintro e w4 ⟨fl,rfl,hE,hS⟩;have HO4:=hd (HO3.o.draw hE hS);clear hE hS HO3;go_upto_if 49 with fail
   go_cut [] (fun wx=>∃(v':Value) (bs':List Bf),Hd (PrS w H base g pb (n+BD 3+800) rb v' bs' wx)/\2<=bs'.length/\bs'.length<=5)
   case first=>
    cases fl with
    | false=>
     go_wp2_with fail
     go_meet
     exact⟨_,_,hd (HO4.o.less (by omega)),by omega,by omega⟩
    | true=>
     obtain⟨vA,vc,rfl,-,-⟩:=own_form HO4.o.own;go_upto_region 15 with fail
     generalize hH9:w4.heap.size=H9 at *;have HH9:=hd hH9;have HGH:Hd (g<H9):=hd (by rw[<-hH9];exact HO4.o.stm.lt);clear hH9;have HTT:Hd (∀q∈(Value.slice vA bs.length vc).ownBlock.toList,H<=q/\q<H9):=hd fun q hq=>⟨own_base HO4.o.own q (Option.mem_toList.1 hq),by have:=(HO4.o.own.lt q (Option.mem_toList.1 hq)).2;have:=HH9.o;omega⟩
     have HPT:Hd (pb∉g :: (Value.slice vA bs.length vc).ownBlock.toList):=hd fun hm=>by
      have h1:=HO4.o.pbH;have h2:=HO4.o.g0;have h3:=HO4.o.rb0;have h4:=HO4.o.rbp;rcases List.mem_cons.1 hm with hm|hm
      ·omega
      ·have:=(HTT.o _ hm).1;omega
     have HGT:Hd (g∉(Value.slice vA bs.length vc).ownBlock.toList):=hd fun hm=>by have:=(HTT.o _ hm).1;have h1:=HO4.o.pbH;have h2:=HO4.o.g0;have h3:=HO4.o.rb0;have h4:=HO4.o.rbp;omega
     have hks:bs.length<5:=by omega
     generalize hnm:(⟨#[116]⟩:ByteArray)=nm;have HNM:Hd (nm.size<=20):=hd (by rw[<-hnm];decide);clear hnm;refine rgD 12 11 8 base g (n+BD 3+800) (Value.slice vA bs.length vc).ownBlock.toList [(7,sNumL H9 [3,6,8]),(8,sIn 1 1000),(9,sBz nm),(10,sBfZ H9 nm),(11,sApN H 45 4 bs.length (bs.flatMap bfC) (bfXZ (.slice vA bs.length vc) H9 nm))] (by simp[kinds]) (by simp[kinds]) (fun oi h=>by cases h;rfl) (fun oi h=>by cases h;rfl) ?_ (HO4.o.stm.less (by omega)) ?_
     ·have hno:∀b,H9<=b->b∉g :: (Value.slice vA bs.length vc).ownBlock.toList:=fun b hb hm=>by
       rcases List.mem_cons.1 hm with hm|hm
       ·have:=HGH.o;omega
       ·have:=(HTT.o _ hm).2;omega
      refine kinds_five (fun j hj (u:Nat) w w' hR h=>?_) (fun j hj u w w' hR h=>h) (fun j hj u w w' hR h=>h) (fun j hj u w w' hR h=>?_) fun j hj u w w' hR h=>?_
      ·exact⟨h.1,h.2.ext hR.all (hno _ h.1)⟩
      ·exact⟨h.1,h.2.1.ext hR.all (hno _ h.1),h.2.2⟩
      ·obtain⟨ys,h1,h2⟩:=h;exact⟨ys,h1,own_ext h2 (hR.pre hj) fun q hq=>by have:=own_base h2 q hq;have h3:=HO4.o.pbH;have h4:=HO4.o.g0;have h5:=HO4.o.rb0;have h6:=HO4.o.rbp;rw[List.mem_singleton];omega⟩
     simp only[List.take_succ_cons,List.take_zero,List.drop_succ_cons,List.drop_zero]
     repeat
      refine relAt_detU rfl rfl ?_
      apply Exists.intro
      refine⟨fun wr nr hg hJ=>?_,?_⟩
      ·have hA:=hJ.2.1;have hB:=HO4.o.blk.ext hA HPT.o;have qp:=hB.cell;have qpl:=hB.lt;clear hA hB hg;clear hJ;(go_simp;try go_bits)
       first|rfl|exact⟨rfl,rfl⟩
      simp only[Act.put,List.setIfInBounds_toArray,List.set_cons_succ,List.set_cons_zero]
     refine rel_newD (sNumL H9 [3,6,8]) rfl rfl (by decide) (by decide) (fun wq hE hf=>?_) ?_
     ·refine⟨wq.heap.size,.cells (Nums [3,6,8]) 3,?_,by have:=hE.size;show H9<=wq.heap.size;have:=HH9.o;omega,Blk.new _ _ _⟩
      go_simp;try first|rfl|exact⟨rfl,rfl⟩
     intro (b1:Nat);simp only[Act.put,List.setIfInBounds_toArray,List.set_cons_succ,List.set_cons_zero];dsimp only[sNumL];refine rel_callD (sIn 1 1000) rfl rfl rfl (by decide) ?_ ?_
     ·apply Exists.intro
      apply Exists.intro
      refine⟨fun wr=>?_,fun wr hE hS hf=>?_⟩
      ·go_simp
       first|exact⟨rfl,rfl⟩|rfl
      ·obtain⟨h1,hB⟩:=(get_after hf 7 (by kernel_rfl):(sNumL H9 [3,6,8]).V b1 wr);refine(pick_any base g (n+BD 3+800) b1 3 3 [3,6,8] wr hS hB (by have:=HGH.o;have h2:H9<=b1:=h1;omega) (by decide)).mono ?_
       rintro e w' ⟨r,rfl,hr,hE',hS'⟩;exact⟨r,rfl,by simp at hr;show(1:Int)<=r/\r<=1000;omega,hE',hS'⟩
     intro (z:Int);simp only[Act.put,List.setIfInBounds_toArray,List.set_cons_succ,List.set_cons_zero];dsimp only[sIn];refine rel_sayD (sBz nm) z rfl rfl (by decide) (by decide) (fun wr=>?_) (fun wr hf=>(get_after hf 8 (by kernel_rfl):(sIn 1 1000).V z wr)) ?_
     ·go_simp
      first|rfl|exact⟨rfl,rfl⟩
     intro (z1:Int);simp only[Act.put,List.setIfInBounds_toArray,List.set_cons_succ,List.set_cons_zero];dsimp only[sBz];refine rel_newD (sBfZ H9 nm) rfl rfl (by decide) (by decide) (fun wq hE hf=>?_) ?_
     ·have hz:=(get_after hf 9 (by kernel_rfl):(sBz nm).V z1 wq);refine⟨(wq.heap.size,z1),.cells (bufA nm z1 false none 0 0) 45,?_,by have:=hE.size;show H9<=wq.heap.size;have:=HH9.o;omega,Blk.new _ _ _,hz⟩
      refine exec_buildSlice rfl _ wq _ _ (.agg (bufA nm z1 false none 0 0)) ?_ ?_
      ·rfl
      ·exact bfA_slice wq nm z1 false none 0 0
     rintro⟨kb,z2⟩;simp only[Act.put,List.setIfInBounds_toArray,List.set_cons_succ,List.set_cons_zero];dsimp only[sBfZ];obtain⟨i0,hi0,hz0,hz1',hz2⟩:=bfInfo;refine rel_appD 10 kb 26 H 4 45 i0 _ 56 (.slice vA bs.length vc) bs.length 1 (bs.flatMap bfC) _ _ (fun b ys w=>H9<=w.heap.size/\ys=bfC ⟨nm,z2,false,none,0,[]⟩/\1<=z2/\z2<=1000) (bfXZ (.slice vA bs.length vc) H9 nm) (fun b w=>(sBfZ H9 nm).V (b,z2) w) rfl rfl rfl (by kernel_rfl) hi0 hz0 hz1' hz2 rfl (by decide) rfl rfl rfl rfl (by decide) HGT.o (fun x hx=>by have h1:=(HTT.o x hx).1;have h2:=HO4.o.bw;have h3:=HO4.o.rb0;have h4:=HO4.o.rbp;have h5:=HO4.o.pbH;omega) ?_ (by kernel_rfl) rfl ?_ ?_ ?_ ?_ ?_ ?_
     ·exact fun wr hE=>own_ext HO4.o.own hE fun q hq=>by have:=own_base HO4.o.own q hq;have h3:=HO4.o.pbH;have h4:=HO4.o.g0;have h5:=HO4.o.rb0;have h6:=HO4.o.rbp;rw[List.mem_singleton];omega
     ·exact fun w ⟨h0,h1,h2⟩=>⟨_,rfl,fun j u hj=>by rw[h1.cell,<-Array.getElem?_toList];exact hj,bfC_one _,Nat.le_trans h0 (Nat.le_of_lt h1.lt),rfl,h2⟩
     ·rintro y g8 w8 w9 ⟨h0,rfl,h1⟩ hE hg hlt;exact⟨z2,rfl,h1.1,h1.2,hg.imp id (fun h=>by omega)⟩
     ·unfold maxLen;omega
     ·omega
     ·have:=HH9.o;have:=HO4.o.hH;omega
     intro u9;simp only[Act.put,List.setIfInBounds_toArray,List.set_cons_succ,List.set_cons_zero];refine relAt_nilU (fun w8 r hr hJ hF=>?_)
     have h10:(sApN H 45 4 bs.length (bs.flatMap bfC) (bfXZ (.slice vA bs.length vc) H9 nm)).V u9 w8:=hF 11;obtain⟨g8,c8⟩:=u9;obtain⟨ys,⟨z,rfl,hz1,hz9,hloc⟩,ho8⟩:=h10;have HE8:=hd hJ.2.1;have HS8:=hd (hJ.2.2.less (m:=n+BD 3+800) (by split<;>omega));have HO9:=hd (HO4.o.more2 HE8.o HS8.o ho8 (hloc.imp id fun e=>by have:=HH9.o;omega) (b:=⟨nm,z,false,none,0,[]⟩) ⟨SeqA.nil ..,HNM.o⟩ (show(1:Int)<=z/\z<=1000 by omega));have hb8:=HO4.o.blk.ext HE8.o HPT.o;have qp:=hb8.cell;have qpf:=hb8.frozen;have qpl:=hb8.lt;clear hF hJ hr ho8 hloc hb8;dsimp only[sApN];go_wp2_with fail
     go_meet
     exact⟨_,_,HO9,by rw[List.length_append,List.length_singleton];omega,by rw[List.length_append,List.length_singleton];omega⟩
   case rest=>
    obtain⟨v',bs',HO5,hb2,hb5⟩:=hcut;obtain⟨bA,bc,rfl,-,-⟩:=own_form HO5.o.own;clear HO4 HKL hnb hlti hk;go_wp2_with fail
    refine(range_any base g (n+BD 3+700) 1 3 wc (HO5.o.stm.less (by omega)) (by omega) (by omega)).mono ?_
    rintro e w6 ⟨r,rfl,hr,hE,hS⟩;have HO6:=hd (HO5.o.draw hE hS);obtain⟨d,rfl⟩:∃k:Nat,r=k:=⟨r.toNat,by omega⟩;have hd3:d<=3:=by omega
    clear hE hS hr HO5;go_wp2_with fail
    have HG6:=hd (gbody_any d hd3 base g pb (n+700) bc bA bs' (.slice none 0 0) [] 0 3 w6 (Nat.le_refl _) (by rw[List.length_nil];omega) ((HO6.o.less (m:=n+700+BD d) (by have:=BD_le hd3;omega)).bldp ⟨by omega,by omega⟩));refine HG6.o.mono ?_
    rintro e w7 ⟨A,c,ss,V',cnt',rfl,hq,hs,hA⟩;have HE7:Hd (Ext [g,pb] w6 w7):=hd hA.ext;have HB7:=hd hA.bld.blk;have HS7:=hd hA.bld.stm;have HCP:=hd (own_cap HO6.o.own);have hsz:=hA.bld.b9;have HQ7:=hd (SeqA.mono (Q:=fun b=>H<=b) hq (fun b _ hb=>by have:=hb.1;have:=HO6.o.hH;omega) (Nat.le_refl _));have HK7:=hd (fun s hs'=>StA.mono (Q:=fun b=>H<=b) (fun b _ hb=>by have:=hb.1;have:=HO6.o.hH;omega) (Nat.le_refl _) (hs s hs'));have hg0:=HO6.o.g0;have hr0:=HO6.o.rb0;have hrp:=HO6.o.rbp;have hpH:=HO6.o.pbH;have HR7:=hd (HO6.o.res.ext HE7.o (by simp;omega))
    have HBF7:Hd (SeqA (fun b=>H<=b) 20 w7 bA 4 bfC bs'):=hd (by
     have hO:=own_ext HO6.o.own HE7.o fun q hq=>by have:=own_base HO6.o.own q hq;simp;omega
     exact(SeqA.own (P:=fun b=>H<=b) (N:=20) bfC_len hO (by omega) (by decide) (fun q _ h1 _=>h1)).2)
    have HBK7:Hd (∀b∈bs',BfA (fun b=>H<=b) 20 w7 b):=hd fun b hb=>BfA.ext HE7.o (by intro x hx hh;simp at hx;omega) (BfA.mono (fun b _ hh=>hh.1) (Nat.le_refl _) (HO6.o.kid b hb))
    have HX7:=hd (HO6.o.ext.step HE7.o fun x hx=>by simp at hx;rcases hx with rfl|rfl;exact .inl (by simp);exact .inr (by omega));clear hA hq hs HO6 HG6;have qp:=HB7.o.cell;have qpf:=HB7.o.frozen;have qpl:=HB7.o.lt;unfold bldA at qp;go_upto_region 17 with fail
    have HE8:Hd (Ext [pb] w7 (w7.setCell ⟨pb,2,none⟩ (.slice A ss.length c))):=hd (Ext.setAt (.inl (by simp)) (Ext.refl _ _));have HB8:=hd (HB7.o.set_' 2 (.slice A ss.length c) #[.pointer (some ⟨g,0,none⟩),.slice bA bs'.length bc,.slice A ss.length c,V',.int .i64 cnt'] rfl);have HR8:=hd (HR7.o.ext HE8.o (by rw[List.mem_singleton];omega));have hP8:∀x∈[pb],¬(H<=x):=fun x hx=>by rw[List.mem_singleton.1 hx];omega
    have HQ8:=hd (SeqA.ext HQ7.o HE8.o hP8);have HK8:=hd (fun s hs'=>StA.ext HE8.o hP8 (HK7.o s hs'));have HBF8:=hd (SeqA.ext HBF7.o HE8.o hP8);have HBK8:=hd (fun b hb=>BfA.ext HE8.o hP8 (HBK7.o b hb));have HX8:=hd (HX7.o.step HE8.o fun x hx=>.inr (by rw[List.mem_singleton.1 hx];omega));have HS8:=hd (HS7.o.ext HE8.o (by rw[List.mem_singleton];omega) (fun x hx=>by rw[List.mem_singleton.1 hx];omega));clear qp qpf qpl HE7 HB7 HR7 HQ7 HK7 HBF7 HBK7 HX7 HS7 HE8 hP8;generalize World.setCell w7 _ _=w8 at *;have qp:=HB8.o.cell;have qpf:=HB8.o.frozen;have qpl:=HB8.o.lt;have qr:=HR8.o.cell;have qrf:=HR8.o.frozen;have qrl:=HR8.o.lt;have HE9:=hd ((Ext.setAt (b:=rb) (i:=0) (u:=.slice bA bs'.length bc) (.inl (by simp)) (Ext.refl [rb] w8)).trans (Ext.setAt (b:=rb) (i:=1) (u:=.slice A ss.length c) (.inl (by simp)) (Ext.refl [rb] _)));have HR9:=hd ((HR8.o.set_' 0 (.slice bA bs'.length bc) #[.slice bA bs'.length bc,.slice none 0 0] rfl).set_' 1 (.slice A ss.length c) #[.slice bA bs'.length bc,.slice A ss.length c] rfl);go_wp2_with fail
    have hP9:∀x∈[rb],¬(H<=x):=fun x hx=>by rw[List.mem_singleton.1 hx];omega
    have low:∀b,H<=b->w.heap.size<=b:=fun b hb=>by omega
    have HP9:Hd (PgA (fun b=>w.heap.size<=b) 30 _ ⟨bA,bc,bs',A,c,ss⟩):=hd ⟨SeqA.mono (SeqA.ext HBF8.o HE9.o hP9) (fun b _ hb=>low b hb) (by omega),fun b hb=>BfA.mono (fun b _ hb=>low b hb) (by omega) (BfA.ext HE9.o hP9 (HBK8.o b hb)),HCP.o,
     SeqA.mono (SeqA.ext HQ8.o HE9.o hP9) (fun b _ hb=>low b hb) (by omega),fun s hs=>StA.mono (fun b _ hb=>low b hb) (by omega) (StA.ext HE9.o hP9 (HK8.o s hs))⟩
    have HX9:=hd (HX8.o.step HE9.o fun x hx=>.inr (by rw[List.mem_singleton.1 hx];omega));have HS9:=hd (HS8.o.ext HE9.o (by rw[List.mem_singleton];omega) (fun x hx=>by rw[List.mem_singleton.1 hx];omega));refine bodyPost_ret (results_cell_row rfl _ _ rb 29 _ (0,0) _ rfl HR9.o Tryz.underlying29 rfl (by kernel_rfl)) rfl ⟨⟨bA,bc,bs',A,c,ss⟩,rfl,HP9.o,HX9.o,HS9.o.less (by omega)⟩
end
theorem tmC_len (x:ByteArray×Int):(tmC x).length=2:=rfl
theorem tmC_one (x:ByteArray×Int):∀u∈tmC x,u.oneCell'=true:=by
 intro u hu;simp only[tmC,List.mem_cons,List.not_mem_nil,or_false] at hu;rcases hu with rfl|rfl<;>rfl
theorem inC_one (x:Int):∀u∈inC x,u.oneCell'=true:=by
 intro u hu;simp only[inC,List.mem_cons,List.not_mem_nil,or_false] at hu;rw[hu];rfl
theorem flat_lenK {α:Type}{cs:α->List Value}{k:Nat}(hs:∀x,(cs x).length=k):∀l:List α,(l.flatMap cs).length=l.length*k
 | []=>by simp
 | x :: l=>by rw[List.flatMap_cons,List.length_append,hs,flat_lenK hs l,List.length_cons,Nat.succ_mul];omega
theorem seq_cells {α:Type}{P:Nat->Prop}{N:Nat}{w:World}{b k:Nat}{cs:α->List Value}{l:List α}(hs:∀x,(cs x).length=k)(hk:0<k)(h:SeqA P N w (some ⟨b,0,none⟩) k cs l)(j:Nat)(u:Value)(hj:(l.flatMap cs)[j]? = some u):w.cell? ⟨b,j,none⟩=some u:=by
 have hlt:=(List.getElem?_eq_some_iff.1 hj).1;rw[flat_lenK hs] at hlt;rcases h.2 with rfl|⟨b',hb,-,-,hc⟩
 ·simp at hj
 ·cases hb
  have hi:j / k<l.length:=(Nat.div_lt_iff_lt_mul hk).2 hlt;have hr:j % k<k:=Nat.mod_lt _ hk;have e:j / k*k+j % k=j:=by rw[Nat.mul_comm];exact Nat.div_add_mod j k
  have hx:l[j / k]? = some l[j / k]:=List.getElem?_eq_getElem hi;have hg:=flat_getG hs hx hr;rw[e,hj] at hg;have:=hc (j / k) _ hx (j % k) u hg.symm;rw[e] at this;exact this
def CloP (t:TypeId)(k:Nat)(n:Nat)(xs:List Value)(w:World)(e:Ending)(w':World):Prop:=∃v,e=.returned v/\w'.ownsRow w.heap.size t k v n xs/\Ext [] w w'
set_option maxRecDepth 100000 in
set_option maxHeartbeats 2000000 in
theorem cloT_any (P:Nat->Prop)(N:Nat)(A:Option Addr)(n cap:Nat)(l:List (ByteArray×Int))(w:World)(h:SeqA P N w A 2 tmC l)(hl:l.length=n)(h9:n<=1000000) :
  Calls Tryz.prog 200 #[.slice A n cap] w (CloP 178 2 n (l.flatMap tmC) w):=by
 obtain⟨i0,hi0,hz0,hz1,hz2⟩:=tmInfo;have heq:∀W:World,(binOp .eql 36 (.slice A n cap) (.slice none 0 0)).run Tryz.prog W=.ok (.bool A.isNone) W:=fun W=>Go.Lib.run_eql_slice_nil (P:=Tryz.prog) (w:=W) (h:=Tryz.underlying36) ..
 cases A with
 | none=>
  have hv:l=[]:=by
   rcases h.2 with h|⟨b,hb,-⟩
   ·exact h
   ·cases hb
  subst hv;simp at hl;subst hl;go_enter Tryz.func200,Tryz.ntmps200
  go_wp2_with fail
  go_ret
  exact⟨_,rfl,own_none _ _ _ _,Ext.refl _ _⟩
 | some a=>
  by_cases h0:n=0
  ·subst h0;have hv:l=[]:=List.length_eq_zero_iff.1 hl;subst hv
   have hr:∀ty,(Builtin.append_ #[36,36] ty #[.slice (some ⟨w.heap.size,0,none⟩) 0 0,.slice (some a) 0 cap]).run Tryz.prog (w.alloc (.cells #[] 178))=.ok (.slice (some ⟨w.heap.size,0,none⟩) 0 0) (w.alloc (.cells #[] 178)):=fun ty=>
    run_append_room_cells (P:=Tryz.prog) _ 36 ty 178 i0 Tryz.underlying36 hi0 w.heap.size 0 0 0 a 0 cap [] (by simp) (by simp) (by simp) (by omega) (by simp) (by simp)
   go_enter Tryz.func200,Tryz.ntmps200
   go_wp2_with (at_builtin;refine Lib.wpList_append_run _ rfl _ _ _ _ rfl _ _ rfl rfl _ _ (hr _) ?_)
   go_ret
   exact⟨_,rfl,World.ownsRow_made w #[] 0 (Nat.le_refl _) (by decide) (by simp),(Ext.refl [] w).alloc _⟩
  ·obtain⟨b,hb,hbw⟩:∃b,a=⟨b,0,none⟩/\b<w.heap.size:=by
    rcases h.2 with hh|⟨b,hb,-,hw,-⟩
    ·rw[hh] at hl;simp at hl;omega
    ·cases hb;exact⟨b,rfl,hw⟩
   subst hb;have HC:=hd (seq_cells tmC_len (by decide) h);have HL:=hd hl;have HLN:Hd ((l.flatMap tmC).length=n*2):=hd (by rw[flat_lenK tmC_len,hl]);generalize hxs:l.flatMap tmC=xs at *;have HON:Hd (∀u∈xs,u.oneCell'=true):=hd fun u hu=>by rw[<-hxs] at hu;obtain⟨y,-,hy⟩:=List.mem_flatMap.1 hu;exact tmC_one y u hy
   clear h hl hxs;go_enter Tryz.func200,Tryz.ntmps200
   go_wp2_with (
    refine wpList_append_lies _ rfl _ _ 36 rfl w.heap.size 178 i0 _ 2 24 Tryz.underlying36 hi0 hz0 hz1 hz2 rfl (by decide) _ 0 [] rfl ?c0 ⟨b,0,none⟩ n cap xs rfl HLN.o ?c1 HON.o (by omega) ?c3 ?c4 ?c5 _ rfl ?_
    case c0=>exact World.ownsRow_made w #[] 0 (Nat.le_refl _) (by decide) (by simp)
    case c1=>
     intro i x hx;rw[Addr.add_mk,Nat.zero_add];exact((Ext.refl [] w).alloc _).held (HC.o i x hx) (by simp)
    case c3=>unfold maxLen;omega
    case c4=>omega
    case c5=>simp
    intro g c8 w8 ho hg ha hlt;have HX:=hd (And.intro ho (And.intro hg ha));clear ho hg ha hlt)
   go_ret
   obtain⟨ho,hg,ha⟩:=HX.o;rw[Nat.zero_add,List.nil_append] at ho;refine⟨_,rfl,ho,((Ext.refl [] w).alloc _).grown hg (fun k hk=>.inr ?_)⟩
   cases hk;exact Nat.le_refl _
set_option maxRecDepth 100000 in
set_option maxHeartbeats 2000000 in
theorem cloE_any (P:Nat->Prop)(N:Nat)(A:Option Addr)(n cap:Nat)(l:List Ex)(w:World)(h:SeqA P N w A 10 exC l)(hl:l.length=n)(h9:n<=1000000) :
  Calls Tryz.prog 202 #[.slice A n cap] w (CloP 41 10 n (l.flatMap exC) w):=by
 obtain⟨i0,hi0,hz0,hz1,hz2⟩:=exInfo;have heq:∀W:World,(binOp .eql 39 (.slice A n cap) (.slice none 0 0)).run Tryz.prog W=.ok (.bool A.isNone) W:=fun W=>Go.Lib.run_eql_slice_nil (P:=Tryz.prog) (w:=W) (h:=Tryz.underlying39) ..
 cases A with
 | none=>
  have hv:l=[]:=by
   rcases h.2 with h|⟨b,hb,-⟩
   ·exact h
   ·cases hb
  subst hv;simp at hl;subst hl;go_enter Tryz.func202,Tryz.ntmps202
  go_wp2_with fail
  go_ret
  exact⟨_,rfl,own_none _ _ _ _,Ext.refl _ _⟩
 | some a=>
  by_cases h0:n=0
  ·subst h0;have hv:l=[]:=List.length_eq_zero_iff.1 hl;subst hv
   have hr:∀ty,(Builtin.append_ #[39,39] ty #[.slice (some ⟨w.heap.size,0,none⟩) 0 0,.slice (some a) 0 cap]).run Tryz.prog (w.alloc (.cells #[] 41))=.ok (.slice (some ⟨w.heap.size,0,none⟩) 0 0) (w.alloc (.cells #[] 41)):=fun ty=>
    run_append_room_cells (P:=Tryz.prog) _ 39 ty 41 i0 Tryz.underlying39 hi0 w.heap.size 0 0 0 a 0 cap [] (by simp) (by simp) (by simp) (by omega) (by simp) (by simp)
   go_enter Tryz.func202,Tryz.ntmps202
   go_wp2_with (at_builtin;refine Lib.wpList_append_run _ rfl _ _ _ _ rfl _ _ rfl rfl _ _ (hr _) ?_)
   go_ret
   exact⟨_,rfl,World.ownsRow_made w #[] 0 (Nat.le_refl _) (by decide) (by simp),(Ext.refl [] w).alloc _⟩
  ·obtain⟨b,hb,hbw⟩:∃b,a=⟨b,0,none⟩/\b<w.heap.size:=by
    rcases h.2 with hh|⟨b,hb,-,hw,-⟩
    ·rw[hh] at hl;simp at hl;omega
    ·cases hb;exact⟨b,rfl,hw⟩
   subst hb;have HC:=hd (seq_cells exC_len (by decide) h);have HL:=hd hl;have HLN:Hd ((l.flatMap exC).length=n*10):=hd (by rw[flat_lenK exC_len,hl]);generalize hxs:l.flatMap exC=xs at *;have HON:Hd (∀u∈xs,u.oneCell'=true):=hd fun u hu=>by rw[<-hxs] at hu;obtain⟨y,-,hy⟩:=List.mem_flatMap.1 hu;exact exC_one y u hy
   clear h hl hxs;go_enter Tryz.func202,Tryz.ntmps202
   go_wp2_with (
    refine wpList_append_lies _ rfl _ _ 39 rfl w.heap.size 41 i0 _ 10 112 Tryz.underlying39 hi0 hz0 hz1 hz2 rfl (by decide) _ 0 [] rfl ?c0 ⟨b,0,none⟩ n cap xs rfl HLN.o ?c1 HON.o (by omega) ?c3 ?c4 ?c5 _ rfl ?_
    case c0=>exact World.ownsRow_made w #[] 0 (Nat.le_refl _) (by decide) (by simp)
    case c1=>
     intro i x hx;rw[Addr.add_mk,Nat.zero_add];exact((Ext.refl [] w).alloc _).held (HC.o i x hx) (by simp)
    case c3=>unfold maxLen;omega
    case c4=>omega
    case c5=>simp
    intro g c8 w8 ho hg ha hlt;have HX:=hd (And.intro ho (And.intro hg ha));clear ho hg ha hlt)
   go_ret
   obtain⟨ho,hg,ha⟩:=HX.o;rw[Nat.zero_add,List.nil_append] at ho;refine⟨_,rfl,ho,((Ext.refl [] w).alloc _).grown hg (fun k hk=>.inr ?_)⟩
   cases hk;exact Nat.le_refl _
set_option maxRecDepth 100000 in
set_option maxHeartbeats 2000000 in
theorem cloS_any (P:Nat->Prop)(N:Nat)(A:Option Addr)(n cap:Nat)(l:List St)(w:World)(h:SeqA P N w A 21 stC l)(hl:l.length=n)(h9:n<=1000000) :
  Calls Tryz.prog 155 #[.slice A n cap] w (CloP 43 21 n (l.flatMap stC) w):=by
 obtain⟨i0,hi0,hz0,hz1,hz2⟩:=stxInfo;have heq:∀W:World,(binOp .eql 27 (.slice A n cap) (.slice none 0 0)).run Tryz.prog W=.ok (.bool A.isNone) W:=fun W=>Go.Lib.run_eql_slice_nil (P:=Tryz.prog) (w:=W) (h:=Tryz.underlying27) ..
 cases A with
 | none=>
  have hv:l=[]:=by
   rcases h.2 with h|⟨b,hb,-⟩
   ·exact h
   ·cases hb
  subst hv;simp at hl;subst hl;go_enter Tryz.func155,Tryz.ntmps155
  go_wp2_with fail
  go_ret
  exact⟨_,rfl,own_none _ _ _ _,Ext.refl _ _⟩
 | some a=>
  by_cases h0:n=0
  ·subst h0;have hv:l=[]:=List.length_eq_zero_iff.1 hl;subst hv
   have hr:∀ty,(Builtin.append_ #[27,27] ty #[.slice (some ⟨w.heap.size,0,none⟩) 0 0,.slice (some a) 0 cap]).run Tryz.prog (w.alloc (.cells #[] 43))=.ok (.slice (some ⟨w.heap.size,0,none⟩) 0 0) (w.alloc (.cells #[] 43)):=fun ty=>
    run_append_room_cells (P:=Tryz.prog) _ 27 ty 43 i0 Tryz.underlying27 hi0 w.heap.size 0 0 0 a 0 cap [] (by simp) (by simp) (by simp) (by omega) (by simp) (by simp)
   go_enter Tryz.func155,Tryz.ntmps155
   go_wp2_with (at_builtin;refine Lib.wpList_append_run _ rfl _ _ _ _ rfl _ _ rfl rfl _ _ (hr _) ?_)
   go_ret
   exact⟨_,rfl,World.ownsRow_made w #[] 0 (Nat.le_refl _) (by decide) (by simp),(Ext.refl [] w).alloc _⟩
  ·obtain⟨b,hb,hbw⟩:∃b,a=⟨b,0,none⟩/\b<w.heap.size:=by
    rcases h.2 with hh|⟨b,hb,-,hw,-⟩
    ·rw[hh] at hl;simp at hl;omega
    ·cases hb;exact⟨b,rfl,hw⟩
   subst hb;have HC:=hd (seq_cells stC_len (by decide) h);have HL:=hd hl;have HLN:Hd ((l.flatMap stC).length=n*21):=hd (by rw[flat_lenK stC_len,hl]);generalize hxs:l.flatMap stC=xs at *;have HON:Hd (∀u∈xs,u.oneCell'=true):=hd fun u hu=>by rw[<-hxs] at hu;obtain⟨y,-,hy⟩:=List.mem_flatMap.1 hu;exact stC_one y u hy
   clear h hl hxs;go_enter Tryz.func155,Tryz.ntmps155
   go_wp2_with (
    refine wpList_append_lies _ rfl _ _ 27 rfl w.heap.size 43 i0 _ 21 256 Tryz.underlying27 hi0 hz0 hz1 hz2 rfl (by decide) _ 0 [] rfl ?c0 ⟨b,0,none⟩ n cap xs rfl HLN.o ?c1 HON.o (by omega) ?c3 ?c4 ?c5 _ rfl ?_
    case c0=>exact World.ownsRow_made w #[] 0 (Nat.le_refl _) (by decide) (by simp)
    case c1=>
     intro i x hx;rw[Addr.add_mk,Nat.zero_add];exact((Ext.refl [] w).alloc _).held (HC.o i x hx) (by simp)
    case c3=>unfold maxLen;omega
    case c4=>omega
    case c5=>simp
    intro g c8 w8 ho hg ha hlt;have HX:=hd (And.intro ho (And.intro hg ha));clear ho hg ha hlt)
   go_ret
   obtain⟨ho,hg,ha⟩:=HX.o;rw[Nat.zero_add,List.nil_append] at ho;refine⟨_,rfl,ho,((Ext.refl [] w).alloc _).grown hg (fun k hk=>.inr ?_)⟩
   cases hk;exact Nat.le_refl _
set_option maxRecDepth 100000 in
set_option maxHeartbeats 2000000 in
theorem cloA_any (P:Nat->Prop)(N:Nat)(A:Option Addr)(n cap:Nat)(l:List Af)(w:World)(h:SeqA P N w A 2 afC l)(hl:l.length=n)(h9:n<=1000000) :
  Calls Tryz.prog 156 #[.slice A n cap] w (CloP 38 2 n (l.flatMap afC) w):=by
 obtain⟨i0,hi0,hz0,hz1,hz2⟩:=afInfo;have heq:∀W:World,(binOp .eql 35 (.slice A n cap) (.slice none 0 0)).run Tryz.prog W=.ok (.bool A.isNone) W:=fun W=>Go.Lib.run_eql_slice_nil (P:=Tryz.prog) (w:=W) (h:=Tryz.underlying35) ..
 cases A with
 | none=>
  have hv:l=[]:=by
   rcases h.2 with h|⟨b,hb,-⟩
   ·exact h
   ·cases hb
  subst hv;simp at hl;subst hl;go_enter Tryz.func156,Tryz.ntmps156
  go_wp2_with fail
  go_ret
  exact⟨_,rfl,own_none _ _ _ _,Ext.refl _ _⟩
 | some a=>
  by_cases h0:n=0
  ·subst h0;have hv:l=[]:=List.length_eq_zero_iff.1 hl;subst hv
   have hr:∀ty,(Builtin.append_ #[35,35] ty #[.slice (some ⟨w.heap.size,0,none⟩) 0 0,.slice (some a) 0 cap]).run Tryz.prog (w.alloc (.cells #[] 38))=.ok (.slice (some ⟨w.heap.size,0,none⟩) 0 0) (w.alloc (.cells #[] 38)):=fun ty=>
    run_append_room_cells (P:=Tryz.prog) _ 35 ty 38 i0 Tryz.underlying35 hi0 w.heap.size 0 0 0 a 0 cap [] (by simp) (by simp) (by simp) (by omega) (by simp) (by simp)
   go_enter Tryz.func156,Tryz.ntmps156
   go_wp2_with (at_builtin;refine Lib.wpList_append_run _ rfl _ _ _ _ rfl _ _ rfl rfl _ _ (hr _) ?_)
   go_ret
   exact⟨_,rfl,World.ownsRow_made w #[] 0 (Nat.le_refl _) (by decide) (by simp),(Ext.refl [] w).alloc _⟩
  ·obtain⟨b,hb,hbw⟩:∃b,a=⟨b,0,none⟩/\b<w.heap.size:=by
    rcases h.2 with hh|⟨b,hb,-,hw,-⟩
    ·rw[hh] at hl;simp at hl;omega
    ·cases hb;exact⟨b,rfl,hw⟩
   subst hb;have HC:=hd (seq_cells afC_len (by decide) h);have HL:=hd hl;have HLN:Hd ((l.flatMap afC).length=n*2):=hd (by rw[flat_lenK afC_len,hl]);generalize hxs:l.flatMap afC=xs at *;have HON:Hd (∀u∈xs,u.oneCell'=true):=hd fun u hu=>by rw[<-hxs] at hu;obtain⟨y,-,hy⟩:=List.mem_flatMap.1 hu;exact afC_one y u hy
   clear h hl hxs;go_enter Tryz.func156,Tryz.ntmps156
   go_wp2_with (
    refine wpList_append_lies _ rfl _ _ 35 rfl w.heap.size 38 i0 _ 2 32 Tryz.underlying35 hi0 hz0 hz1 hz2 rfl (by decide) _ 0 [] rfl ?c0 ⟨b,0,none⟩ n cap xs rfl HLN.o ?c1 HON.o (by omega) ?c3 ?c4 ?c5 _ rfl ?_
    case c0=>exact World.ownsRow_made w #[] 0 (Nat.le_refl _) (by decide) (by simp)
    case c1=>
     intro i x hx;rw[Addr.add_mk,Nat.zero_add];exact((Ext.refl [] w).alloc _).held (HC.o i x hx) (by simp)
    case c3=>unfold maxLen;omega
    case c4=>omega
    case c5=>simp
    intro g c8 w8 ho hg ha hlt;have HX:=hd (And.intro ho (And.intro hg ha));clear ho hg ha hlt)
   go_ret
   obtain⟨ho,hg,ha⟩:=HX.o;rw[Nat.zero_add,List.nil_append] at ho;refine⟨_,rfl,ho,((Ext.refl [] w).alloc _).grown hg (fun k hk=>.inr ?_)⟩
   cases hk;exact Nat.le_refl _
set_option maxRecDepth 100000 in
set_option maxHeartbeats 2000000 in
theorem cloB_any (P:Nat->Prop)(N:Nat)(A:Option Addr)(n cap:Nat)(l:List Bf)(w:World)(h:SeqA P N w A 4 bfC l)(hl:l.length=n)(h9:n<=1000000) :
  Calls Tryz.prog 105 #[.slice A n cap] w (CloP 45 4 n (l.flatMap bfC) w):=by
 obtain⟨i0,hi0,hz0,hz1,hz2⟩:=bfInfo;have heq:∀W:World,(binOp .eql 26 (.slice A n cap) (.slice none 0 0)).run Tryz.prog W=.ok (.bool A.isNone) W:=fun W=>Go.Lib.run_eql_slice_nil (P:=Tryz.prog) (w:=W) (h:=Tryz.underlying26) ..
 cases A with
 | none=>
  have hv:l=[]:=by
   rcases h.2 with h|⟨b,hb,-⟩
   ·exact h
   ·cases hb
  subst hv;simp at hl;subst hl;go_enter Tryz.func105,Tryz.ntmps105
  go_wp2_with fail
  go_ret
  exact⟨_,rfl,own_none _ _ _ _,Ext.refl _ _⟩
 | some a=>
  by_cases h0:n=0
  ·subst h0;have hv:l=[]:=List.length_eq_zero_iff.1 hl;subst hv
   have hr:∀ty,(Builtin.append_ #[26,26] ty #[.slice (some ⟨w.heap.size,0,none⟩) 0 0,.slice (some a) 0 cap]).run Tryz.prog (w.alloc (.cells #[] 45))=.ok (.slice (some ⟨w.heap.size,0,none⟩) 0 0) (w.alloc (.cells #[] 45)):=fun ty=>
    run_append_room_cells (P:=Tryz.prog) _ 26 ty 45 i0 Tryz.underlying26 hi0 w.heap.size 0 0 0 a 0 cap [] (by simp) (by simp) (by simp) (by omega) (by simp) (by simp)
   go_enter Tryz.func105,Tryz.ntmps105
   go_wp2_with (at_builtin;refine Lib.wpList_append_run _ rfl _ _ _ _ rfl _ _ rfl rfl _ _ (hr _) ?_)
   go_ret
   exact⟨_,rfl,World.ownsRow_made w #[] 0 (Nat.le_refl _) (by decide) (by simp),(Ext.refl [] w).alloc _⟩
  ·obtain⟨b,hb,hbw⟩:∃b,a=⟨b,0,none⟩/\b<w.heap.size:=by
    rcases h.2 with hh|⟨b,hb,-,hw,-⟩
    ·rw[hh] at hl;simp at hl;omega
    ·cases hb;exact⟨b,rfl,hw⟩
   subst hb;have HC:=hd (seq_cells bfC_len (by decide) h);have HL:=hd hl;have HLN:Hd ((l.flatMap bfC).length=n*4):=hd (by rw[flat_lenK bfC_len,hl]);generalize hxs:l.flatMap bfC=xs at *;have HON:Hd (∀u∈xs,u.oneCell'=true):=hd fun u hu=>by rw[<-hxs] at hu;obtain⟨y,-,hy⟩:=List.mem_flatMap.1 hu;exact bfC_one y u hy
   clear h hl hxs;go_enter Tryz.func105,Tryz.ntmps105
   go_wp2_with (
    refine wpList_append_lies _ rfl _ _ 26 rfl w.heap.size 45 i0 _ 4 56 Tryz.underlying26 hi0 hz0 hz1 hz2 rfl (by decide) _ 0 [] rfl ?c0 ⟨b,0,none⟩ n cap xs rfl HLN.o ?c1 HON.o (by omega) ?c3 ?c4 ?c5 _ rfl ?_
    case c0=>exact World.ownsRow_made w #[] 0 (Nat.le_refl _) (by decide) (by simp)
    case c1=>
     intro i x hx;rw[Addr.add_mk,Nat.zero_add];exact((Ext.refl [] w).alloc _).held (HC.o i x hx) (by simp)
    case c3=>unfold maxLen;omega
    case c4=>omega
    case c5=>simp
    intro g c8 w8 ho hg ha hlt;have HX:=hd (And.intro ho (And.intro hg ha));clear ho hg ha hlt)
   go_ret
   obtain⟨ho,hg,ha⟩:=HX.o;rw[Nat.zero_add,List.nil_append] at ho;refine⟨_,rfl,ho,((Ext.refl [] w).alloc _).grown hg (fun k hk=>.inr ?_)⟩
   cases hk;exact Nat.le_refl _
set_option maxRecDepth 100000 in
set_option maxHeartbeats 2000000 in
theorem cloI_any (P:Nat->Prop)(N:Nat)(A:Option Addr)(n cap:Nat)(l:List Int)(w:World)(h:SeqA P N w A 1 inC l)(hl:l.length=n)(h9:n<=1000000) :
  Calls Tryz.prog 41 #[.slice A n cap] w (CloP 3 1 n (l.flatMap inC) w):=by
 obtain⟨i0,hi0,hz0,hz1,hz2⟩:=intInfo;have heq:∀W:World,(binOp .eql 22 (.slice A n cap) (.slice none 0 0)).run Tryz.prog W=.ok (.bool A.isNone) W:=fun W=>Go.Lib.run_eql_slice_nil (P:=Tryz.prog) (w:=W) (h:=Tryz.underlying22) ..
 cases A with
 | none=>
  have hv:l=[]:=by
   rcases h.2 with h|⟨b,hb,-⟩
   ·exact h
   ·cases hb
  subst hv;simp at hl;subst hl;go_enter Tryz.func41,Tryz.ntmps41
  go_wp2_with fail
  go_ret
  exact⟨_,rfl,own_none _ _ _ _,Ext.refl _ _⟩
 | some a=>
  by_cases h0:n=0
  ·subst h0;have hv:l=[]:=List.length_eq_zero_iff.1 hl;subst hv
   have hr:∀ty,(Builtin.append_ #[22,22] ty #[.slice (some ⟨w.heap.size,0,none⟩) 0 0,.slice (some a) 0 cap]).run Tryz.prog (w.alloc (.cells #[] 3))=.ok (.slice (some ⟨w.heap.size,0,none⟩) 0 0) (w.alloc (.cells #[] 3)):=fun ty=>
    run_append_room_cells (P:=Tryz.prog) _ 22 ty 3 i0 Tryz.underlying22 hi0 w.heap.size 0 0 0 a 0 cap [] (by simp) (by simp) (by simp) (by omega) (by simp) (by simp)
   go_enter Tryz.func41,Tryz.ntmps41
   go_wp2_with (at_builtin;refine Lib.wpList_append_run _ rfl _ _ _ _ rfl _ _ rfl rfl _ _ (hr _) ?_)
   go_ret
   exact⟨_,rfl,World.ownsRow_made w #[] 0 (Nat.le_refl _) (by decide) (by simp),(Ext.refl [] w).alloc _⟩
  ·obtain⟨b,hb,hbw⟩:∃b,a=⟨b,0,none⟩/\b<w.heap.size:=by
    rcases h.2 with hh|⟨b,hb,-,hw,-⟩
    ·rw[hh] at hl;simp at hl;omega
    ·cases hb;exact⟨b,rfl,hw⟩
   subst hb;have HC:=hd (seq_cells inC_len (by decide) h);have HL:=hd hl;have HLN:Hd ((l.flatMap inC).length=n*1):=hd (by rw[flat_lenK inC_len,hl]);generalize hxs:l.flatMap inC=xs at *;have HON:Hd (∀u∈xs,u.oneCell'=true):=hd fun u hu=>by rw[<-hxs] at hu;obtain⟨y,-,hy⟩:=List.mem_flatMap.1 hu;exact inC_one y u hy
   clear h hl hxs;go_enter Tryz.func41,Tryz.ntmps41
   go_wp2_with (
    refine wpList_append_lies _ rfl _ _ 22 rfl w.heap.size 3 i0 _ 1 8 Tryz.underlying22 hi0 hz0 hz1 hz2 rfl (by decide) _ 0 [] rfl ?c0 ⟨b,0,none⟩ n cap xs rfl HLN.o ?c1 HON.o (by omega) ?c3 ?c4 ?c5 _ rfl ?_
    case c0=>exact World.ownsRow_made w #[] 0 (Nat.le_refl _) (by decide) (by simp)
    case c1=>
     intro i x hx;rw[Addr.add_mk,Nat.zero_add];exact((Ext.refl [] w).alloc _).held (HC.o i x hx) (by simp)
    case c3=>unfold maxLen;omega
    case c4=>omega
    case c5=>simp
    intro g c8 w8 ho hg ha hlt;have HX:=hd (And.intro ho (And.intro hg ha));clear ho hg ha hlt)
   go_ret
   obtain⟨ho,hg,ha⟩:=HX.o;rw[Nat.zero_add,List.nil_append] at ho;refine⟨_,rfl,ho,((Ext.refl [] w).alloc _).grown hg (fun k hk=>.inr ?_)⟩
   cases hk;exact Nat.le_refl _
set_option maxRecDepth 100000 in
theorem reverse_none (A:Option Addr)(c:Nat)(w:World):Calls Tryz.prog 201 #[.slice A 0 c] w fun e w'=>e=.returned (.tuple #[])/\w'=w:=by
 go_enter Tryz.func201,Tryz.ntmps201
 go_wp2_with fail
 go_loopw [2,3] (fun i j wr=>i=.int .i64 0/\j=.int .i64 (-1)/\wr=w) (fun _ _ _=>0)
 case atStart=>exact⟨rfl,rfl,rfl⟩
 case round=>
  obtain⟨rfl,rfl,rfl⟩:=hrel;go_wp2_with fail
  exact bodyPost_end (results_none rfl _ _ _) rfl ⟨rfl,rfl⟩
set_option maxHeartbeats 8000000 in
set_option maxRecDepth 100000 in
theorem reverse_any (n c b:Nat)(ts:List (ByteArray×Int))(w:World)(hl:ts.length=n)(h1:1<=n)(hn:n<=1000000)(h:TmR w b ts) :
  Calls Tryz.prog 201 #[.slice (some ⟨b,0,none⟩) n c] w fun e w'=>e=.returned (.tuple #[])/\∃ts',ts'.length=n/\TmR w' b ts'/\Ext [b] w w':=by
 have HT:=hd h;have HL:=hd hl;clear h hl;go_enter Tryz.func201,Tryz.ntmps201
 go_wp2_with fail
 go_loopw [2,3] (fun i j wr=>∃(k m:Int) (ts':List (ByteArray×Int)),i=.int .i64 k/\j=.int .i64 m/\0<=k/\k+m=n-1/\k<=n/\Hd (ts'.length=n)/\Hd (TmR wr b ts')/\Hd (Ext [b] w wr)) (fun i j _=>(intOf j-intOf i+1).toNat)
 case atStart=>exact⟨0,_,ts,rfl,rfl,by omega,by go_num,by omega,HL,HT,hd (Ext.refl _ _)⟩
 case round=>
  obtain⟨k,m,ts2,rfl,rfl,hk0,hkm,hkn,HL2,HT2,HE2⟩:=hrel;by_cases hlt:k<m
  ·obtain⟨m',rfl⟩:∃q:Nat,m=q:=⟨m.toNat,by omega⟩;obtain⟨k',rfl⟩:∃q:Nat,k=q:=⟨k.toNat,by omega⟩;have hpn:(m':Int)<n:=by omega
   have hpn0:(k':Int)<n:=by omega
   have HKM:=hd hkm;have HLT:=hd hlt;go_upto_region 3 with fail
   obtain⟨s1,k1,hx1,-,-⟩:=HT2.o.at (i:=m') (by rw[HL2.o];omega);obtain⟨s0,k0,hx0,-,-⟩:=HT2.o.at (i:=k') (by rw[HL2.o];omega);have HX1:=hd hx1;have HX0:=hd hx0;clear hx1 hx0;refine rgA 14 13 [b] [(13,⟨Unit,(),fun _=>undef,fun _ w=>TmR w b (ts2.set k' (s1,k1))⟩)] rfl (by simp[kinds]) (fun oi h=>by cases h;rfl) ?_ ?_
   ·exact kinds_one fun j hj u w w' hR h=>h.ext (hR.pre hj) (by simp)
   simp only[List.take_succ_cons,List.take_zero,List.drop_succ_cons,List.drop_zero];have HCY:=hd (fun W (hW:Ext [] wr W)=>And.intro (HT2.o.ext hW (by simp)).lt (And.intro (tm_at HX1.o (HT2.o.ext hW (by simp))) (tm_at HX0.o (HT2.o.ext hW (by simp)))))
   repeat
    refine relAt_detU rfl rfl ?_
    apply Exists.intro
    refine⟨fun wr nr hg hJ=>?_,?_⟩
    ·clear hg;clear hJ;(go_simp;try go_bits)
     first|rfl|exact⟨rfl,rfl⟩
    simp only[Act.put,List.setIfInBounds_toArray,List.set_cons_succ,List.set_cons_zero]
   refine relAt_detU rfl rfl ?_
   apply Exists.intro
   refine⟨fun wr nr hg hJ=>?_,?_⟩
   ·have hA:=hJ.pre (hg.later 13 (by kernel_rfl));have hc:=HCY.o wr hA;have hc1:=hc.1;have hc2:=hc.2.1;have hc3:=hc.2.2;clear hc hA;obtain⟨c1,c2⟩:=hc2;obtain⟨c3,c4⟩:=hc3;clear hJ;(go_simp;try go_bits)
    first|rfl|exact⟨rfl,rfl⟩
   simp only[Act.put,List.setIfInBounds_toArray,List.set_cons_succ,List.set_cons_zero]
   repeat
    refine relAt_detU rfl rfl ?_
    apply Exists.intro
    refine⟨fun wr nr hg hJ=>?_,?_⟩
    ·clear hg;clear hJ;(go_simp;try go_bits)
     first|rfl|exact⟨rfl,rfl⟩
    simp only[Act.put,List.setIfInBounds_toArray,List.set_cons_succ,List.set_cons_zero]
   refine relAt_detU rfl rfl ?_
   apply Exists.intro
   refine⟨fun wr nr hg hJ=>?_,?_⟩
   ·have hA:=hJ.pre (hg.later 13 (by kernel_rfl));have hc:=HCY.o wr hA;have hc1:=hc.1;have hc2:=hc.2.1;have hc3:=hc.2.2;clear hc hA;obtain⟨c1,c2⟩:=hc2;obtain⟨c3,c4⟩:=hc3;clear hJ;(go_simp;try go_bits)
    first|rfl|exact⟨rfl,rfl⟩
   simp only[Act.put,List.setIfInBounds_toArray,List.set_cons_succ,List.set_cons_zero]
   repeat
    refine relAt_detU rfl rfl ?_
    apply Exists.intro
    refine⟨fun wr nr hg hJ=>?_,?_⟩
    ·clear hg;clear hJ;(go_simp;try go_bits)
     first|rfl|exact⟨rfl,rfl⟩
    simp only[Act.put,List.setIfInBounds_toArray,List.set_cons_succ,List.set_cons_zero]
   refine relAt_sayU _ rfl rfl (fun _=>rfl) (fun w12 r12 hg hJ hf=>?_) ?_
   ·have hA:=hJ.pre hg.mine;have hT:=HT2.o.ext hA (by simp);have HS:=hd (hT.set (j:=k') (by rw[HL2.o];omega) (s1,k1));have hE:Ext [b] w12 ((w12.setCell ⟨b,k'*2,none⟩ (.string s1)).setCell ⟨b,k'*2+1,none⟩ (.int .i64 k1)):=Ext.setAt (.inl (by simp)) (Ext.setAt (.inl (by simp)) (Ext.refl _ _));refine⟨(),(w12.setCell ⟨b,k'*2,none⟩ (.string s1)).setCell ⟨b,k'*2+1,none⟩ (.int .i64 k1),?_,HS.o,hJ.app hE,by unfold RA1;rw[if_pos rfl];exact hE⟩
    have hc:=HCY.o w12 hA;have hc1:=hc.1;obtain⟨c1,c2⟩:=hc.2.2;have hf0:=hT.fz (k'*2);have hf1:=hT.fz (k'*2+1);clear hc hA hT hE hJ hf hg;go_simp
   rintro⟨⟩;simp only[Act.put,List.setIfInBounds_toArray,List.set_cons_succ,List.set_cons_zero];refine relAt_nilU (fun w13 r13 hr hJ hF=>?_)
   have hT:TmR w13 b (ts2.set k' (s1,k1)):=hF 13;have HE13:=hd (HE2.o.trans hJ.all);have hlen:m'<(ts2.set k' (s1,k1)).length:=by rw[List.length_set,HL2.o];omega
   have HTZ:=hd (hT.set (j:=m') hlen (s0,k0));have HEZ:=hd (HE13.o.trans (Ext.setAt (b:=b) (i:=m'*2+1) (u:=.int .i64 k0) (.inl (by simp)) (Ext.setAt (b:=b) (i:=m'*2) (u:=.string s0) (.inl (by simp)) (Ext.refl [b] w13))));obtain⟨s9,k9,-,c5,c6⟩:=hT.at hlen;have c7:=hT.fz (m'*2);have c8:=hT.fz (m'*2+1);have c9:=hT.lt;clear hJ hF hr hT hlen HCY;go_wp2_with fail
   go_roundw
   case rel=>exact⟨(k':Int)+1,(m':Int)-1,_,by go_num,by go_num,by omega,by have:=HKM.o;omega,by omega,hd (by rw[List.length_set,List.length_set];exact HL2.o),HTZ,HEZ⟩
   case measure=>simp[intOf];have:=HLT.o;omega
  ·go_wp2_with fail
   exact bodyPost_end (results_none rfl _ _ _) rfl ⟨rfl,ts2,HL2.o,HT2.o,HE2.o⟩
end Go.Proofs.YtfppibmloloakaaGreatDoor
