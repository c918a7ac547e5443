import Derived.Test.YtfppibmloloakaaGreatDoorK41
namespace Go.Proofs.YtfppibmloloakaaGreatDoor
open Go.RowKit Go.Proofs.Tryz
set_option linter.all false
set_option maxHeartbeats 64000000
section
theorem Vx:∀d,d<=3->Ajq d
 | 0,h=>Tn 0 h fun e he=>by omega
 | d+1,h=>Tn (d+1) h fun e he=>by
  have:e=d:=by omega
  subst this;exact Vx e (by omega)
theorem Os (x:Int):(inC x).length=1:=rfl
theorem Ahy (xs:List Int):xs.flatMap inC=xs.map (Value.int .i64):=by
 induction xs with
 | nil=>rfl
 | cons x xs ih=>rw[List.flatMap_cons,ih];rfl
set_option maxRecDepth 100000 in
theorem Ab4 (base g n N:Nat)(hN:N<=20)(w:World)(h:Stm w base g (n+100)) :
  Calls prog 103 #[.pointer (some g),N] w fun e w'=>∃(A:Option Addr) (c:Nat) (xs:List Int),e=.returned (.slice A xs.length c)/\Ao (fun b=>w.heap.size<=b) 20 w' A 1 inC xs/\Ext [g] w w'/\Stm w' base g n:=by
 have HS:=hd h;have hg:=h.lt;clear h;go_enter func103,ntmps103
 go_wp2_with fail
 go_loopw [5,7] (fun v0 i wr=>∃(k:Nat) (v:Value) (xs:List Int),v=v0/\i=.int .i64 k/\k<=N/\Hd (xs.length=k)/\Hd (Ext [g] w wr)/\Hd (Stm wr base g (n+3*(20-k)+10))/\Hd (wr.ownsRow w.heap.size 3 1 v k (xs.map (Value.int .i64)))) (fun _ i _=>(N-intOf i).toNat)
 case atStart=>exact⟨0,_,[],rfl,rfl,jQ _,hd rfl,hd (jF _ _),hd (HS.o.less (by omega)),hd (Cm _ _ _ _)⟩
 case round=>
  obtain⟨k,v,xs,rfl,rfl,hk,a2,HE,a8,HO⟩:=hrel;by_cases ao:k<N
  ·have a6:(k:Int)<N:=by omega
   go_wp2_with fail
   refine(Xs base g (n+3*(20-(k+1))+10) wr (a8.o.less (by omega))).mono ?_
   rintro e w2 ⟨r,rfl,_,hE,hS⟩;have aa:=hd (HE.o.trans hE);have ac:=hd hS;have ab:=hd (Ah HO.o hE fun q hq=>by have:=Ad HO.o q hq;rw[jA];omega);have ad:w.heap.size<=w2.heap.size:=aa.o.size;clear hE hS HO HE a8;obtain⟨i0,ak,al,am,an⟩:=Ht;have ae:=hd (jK w2 3 #[r])
   go_wp2_with (
    refine wpList_append_lies _ rfl _ _ 22 rfl w.heap.size 3 i0 _ 1 8 underlying22 ak al am an rfl (by decide) v k (xs.map (Value.int .i64)) rfl ?c0 ⟨w2.heap.size,0,none⟩ 1 1 [.int .i64 r] rfl rfl ?c1 ?c2 (by omega) ?c3 ?c4 ?c5 _ rfl ?_
    case c0=>exact Ah ab.o ((jF [] w2).alloc _) (by simp)
    case c1=>exact Kt _ _ _ (ae.o.cell 0)
    case c2=>intro u hu;rw[jA.1 hu];rfl
    case c3=>unfold maxLen;omega
    case c4=>omega
    case c5=>exact nt ad ((jF [] w2).alloc _).size
    intro g8 c8 w8 ho8 hg8 hi8 ha8;have af:=hd ho8;have a7:Ext v.ownBlock.toList w2 w8:=((jF _ w2).alloc _).grown hg8 fun q hq=>.inl (jC.2 hq)
    have a1:∀q∈v.ownBlock.toList,w.heap.size<=q:=fun q hq=>Ad ab.o q (jC.1 hq)
    have ag:=hd (aa.o.step a7 fun q hq=>.inr (a1 q hq));have ah:=hd (ac.o.ext a7 (fun hm=>by have:=a1 _ hm;omega) (fun q hq=>by have:=a1 q hq;have:=HS.o.base;omega));clear ho8 hg8 hi8 ha8 a7 a1)
   go_roundw
   case rel=>exact⟨k+1,_,xs ++ [r],rfl,by go_num,by omega,hd (by rw[jG,a2.o];rfl),ag,ah,hd (by rw[List.map_append];exact af.o)⟩
   case measure=>simp[intOf];omega
  ·have ai:k=N:=by omega
   have a6:¬(k:Int)<N:=by omega
   subst ai;obtain⟨A,c,rfl,-,-⟩:=Bg HO.o;have hO:=HO.o;rw[<-Ahy,<-a2.o] at hO;have aj:=hd (Ao.own (P:=fun b=>w.heap.size<=b) (N:=20) Os hO (by rw[a2.o];exact hN) (by decide) (fun q _ h1 _=>h1)).2;clear hO;go_wp2_with fail
   go_ret
   exact⟨A,c,xs,by rw[a2.o];rfl,aj.o,HE.o,a8.o.less (by omega)⟩
structure PrS (w:World)(H base g pb n rb:Nat)(v:Value)(bs:List Bf)(wx:World):Prop where
 ext:Ext [g] w wx
 stm:Stm wx base g n
 blk:Blk wx pb 188 #[.pointer (some g),v,.slice none 0 0,.slice none 0 0,(0:Int)]
 res:Blk wx rb 29 #[.slice none 0 0,.slice none 0 0]
 own:wx.ownsRow H 45 4 v bs.length (bs.flatMap bfC)
 kid:∀b∈bs,BfA (fun q=>H<=q/\v.ownBlock≠some q) 20 wx b
 siz:∀b∈bs,1<=b.size/\b.size<=1000
 rb0:w.heap.size<=rb
 rbp:rb<pb
 pbH:pb<H
 g0:g<w.heap.size
 bw:base<=w.heap.size
 hH:H<=wx.heap.size
section
variable {w wx wy:World} {H base g pb n m rb:Nat} {v:Value} {bs:List Bf}
theorem PrS.draw (h:PrS w H base g pb n rb v bs wx)(hE:Ext [g] wx wy)(hS:Stm wy base g m):PrS w H base g pb m rb v bs wy:=by
 have h0:=h.g0;have h1:=h.rb0;have h2:=h.rbp;have h3:=h.pbH
 exact⟨h.ext.trans hE,hS,h.blk.ext hE (by rw[jA];omega),h.res.ext hE (by rw[jA];omega),Ah h.own hE fun q hq=>by have:=Ad h.own q hq;rw[jA];omega,
  fun x hx=>BfA.ext hE (fun y hy hh=>by rw[jA.1 hy] at hh;have:=hh.1;omega) (h.kid x hx),h.siz,h.rb0,h.rbp,h.pbH,h.g0,h.bw,nt h.hH hE.size⟩
theorem PrS.less (h:PrS w H base g pb n rb v bs wx)(hm:m<=n):PrS w H base g pb m rb v bs wx:=⟨h.ext,h.stm.less hm,h.blk,h.res,h.own,h.kid,h.siz,h.rb0,h.rbp,h.pbH,h.g0,h.bw,h.hH⟩
theorem PrS.far (h:PrS w H base g pb n rb v bs wx){q:Nat}(hE:Ext [q] wx wy)(hq:H<=q)(hv:v.ownBlock≠some q)(hk:∀b∈bs,BfA (fun x=>(H<=x/\v.ownBlock≠some x)/\x≠q) 20 wx b):PrS w H base g pb n rb v bs wy:=by
 have h0:=h.g0;have h1:=h.rb0;have h2:=h.rbp;have h3:=h.pbH;have hb:=h.bw
 exact⟨h.ext.step hE fun x hx=>.inr (by rw[jA.1 hx];omega),h.stm.ext hE (by rw[jA];omega) (fun x hx=>by rw[jA.1 hx];omega),h.blk.ext hE (by rw[jA];omega),h.res.ext hE (by rw[jA];omega),
  Ah h.own hE fun x hx=>by rw[jA];exact fun e=>hv (e ▸ hx),fun x hx=>BfA.mono (fun b _ hh=>hh.1) (jD _) (BfA.ext hE (fun y hy hh=>hh.2 (jA.1 hy)) (hk x hx)),h.siz,h.rb0,h.rbp,h.pbH,h.g0,h.bw,nt h.hH hE.size⟩
theorem PrS.more (h:PrS w H base g pb n rb v bs wx)(hE:Ext v.ownBlock.toList wx wy){g8 c8:Nat}{b:Bf}(hO:wy.ownsRow H 45 4 (.slice (some g8) (bs.length+1) c8) (bs.length+1) (bs.flatMap bfC ++ bfC b))(hg8:v.ownBlock=some g8\/wx.heap.size<=g8)
  (hb:BfA (fun q=>H<=q/\v.ownBlock≠some q) 20 wx b) (hz:1<=b.size/\b.size<=1000):PrS w H base g pb n rb (.slice (some g8) (bs.length+1) c8) (bs ++ [b]) (wy.setCell ⟨pb,1,none⟩ (.slice (some g8) (bs.length+1) c8)):=by
 have a1:Ext [pb] wy (wy.setCell ⟨pb,1,none⟩ (.slice (some g8) (bs.length+1) c8)):=jL (.inl (by simp)) (jF _ _);have g0:=h.g0;have h1:=h.rb0;have h2:=h.rbp;have h3:=h.pbH;have a2:=h.bw;have hq:∀q∈v.ownBlock.toList,H<=q:=fun q hq=>Ad h.own q (jC.1 hq)
 have a6:H<=g8:=Ad hO g8 rfl;have hp:Blk wy pb 188 _:=h.blk.ext hE fun hm=>by have:=hq _ hm;omega
 have step:∀z,BfA (fun q=>H<=q/\v.ownBlock≠some q) 20 wx z->BfA (fun q=>H<=q/\(Value.slice (some g8) (bs.length+1) c8).ownBlock≠some q) 20 (wy.setCell ⟨pb,1,none⟩ (.slice (some g8) (bs.length+1) c8)) z:=fun z hz=>by
  have z1:=BfA.mono (Q:=fun q=>H<=q/\q≠g8/\v.ownBlock≠some q) (fun b hb hh=>⟨hh.1,(by rintro rfl;rcases hg8 with e|e;exact hh.2 e;omega),hh.2⟩) (jD _) hz;have z2:=BfA.ext hE (fun y hy hh=>hh.2.2 (jC.1 hy)) z1;have z3:=BfA.ext a1 (fun y hy hh=>by rw[jA.1 hy] at hh;have:=hh.1;omega) z2;exact BfA.mono (fun b _ hh=>⟨hh.1,fun e=>by cases e;exact hh.2.1 rfl⟩) (jD _) z3
 refine⟨(h.ext.step hE fun q hqq=>.inr (by have:=hq q hqq;omega)).step a1 fun y hy=>.inr (by rw[jA.1 hy];omega),(h.stm.ext hE (fun hm=>by have:=hq _ hm;omega) (fun q hqq=>by have:=hq q hqq;omega)).ext a1 (by rw[jA];omega) (fun y hy=>by rw[jA.1 hy];omega),
  hp.set_' 1 _ _ rfl,(h.res.ext hE (fun hm=>by have:=hq _ hm;omega)).ext a1 (by rw[jA];omega),?_,fun x hx=>?_,fun x hx=>?_,h.rb0,h.rbp,h.pbH,h.g0,h.bw,nt h.hH (nt hE.size a1.size)⟩
 ·rw[jG,List.flatMap_append];have e:List.flatMap bfC [b]=bfC b:=by simp
  rw[e];exact Ah hO a1 fun q hqq=>by have:=Ad hO q hqq;rw[jA];omega
 ·rcases jN.1 hx with hx|hx
  ·exact step x (h.kid x hx)
  ·rw[jA.1 hx];exact step b hb
 ·rcases jN.1 hx with hx|hx
  ·exact h.siz x hx
  ·rw[jA.1 hx];exact hz
end
end
section
structure PgA (P:Nat->Prop)(N:Nat)(w:World)(p:Pg):Prop where
 bufs:Ao P N w p.A 4 bfC p.bs
 each:∀b∈p.bs,BfA P N w b
 cap:p.bs.length<=p.cap/\p.cap<=9223372036854775807
 body:Ao P N w p.B 21 stC p.body
 stmt:∀s∈p.body,StA P N w s
def PgP (base g n:Nat)(w:World)(e:Ending)(w':World):Prop:=∃p:Pg,e=.returned (pgV p)/\PgA (fun b=>w.heap.size<=b) 30 w' p/\Ext [g] w w'/\Stm w' base g n
def Hy (nm:ByteArray)(z:Int)(st:Bool)(A:Option Addr)(k c:Nat):Array Value:=#[.string nm,.int .i64 z,.bool st,.slice A k c]
theorem To:∃i,prog.info? 45=some i/\i.zero=some (.agg #[.string ⟨#[]⟩,(0:Int),.bool false,.slice none 0 0])/\i.size=4/\i.bytes=56:=info_parts (show((prog).info? 45).map (fun i=>(i.zero,i.size,i.bytes))=some (some (.agg #[.string ⟨#[]⟩,(0:Int),.bool false,.slice none 0 0]),4,56) by kernel_rfl)
theorem Po (w:World)(nm:ByteArray)(z:Int)(st:Bool)(A:Option Addr)(k c:Nat):(Instr.buildSlice 26 1 #[(0,.agg (Hy nm z st A k c))]).run prog w=.ok (.slice (some w.heap.size) 1 1) (w.alloc (.cells (Hy nm z st A k c) 45)):=by
 obtain⟨i0,a2,a6,a1,a7⟩:=To;refine run_buildSlice w _ _ 1 _ _ i0 _ underlying26 a2 a6 (by rw[a1];decide) (by rw[a1];decide) ?_
 rw[a1];have hz:((Array.range (1*4)).map (fun x=>(Value.agg #[.string ⟨#[]⟩,(0:Int),.bool false,.slice none 0 0]).cells[x % (Value.agg #[.string ⟨#[]⟩,(0:Int),.bool false,.slice none 0 0]).cells.size]!))=#[.string ⟨#[]⟩,.int .i64 0,.bool false,.slice none 0 0]:=by kernel_rfl
 rw[hz];simp[Instr.fill,Value.cells,Hy]
def sBf (H:Nat)(C:Array Value):Ba:=⟨Nat,0,fun b=>.slice (some ⟨b,0,none⟩) 1 1,fun b w=>H<=b/\Blk w b 45 C⟩
theorem sBf.stays {H g:Nat}{C:Array Value}(hg:g<H):∀y w w',Ext [g] w w'->(sBf H C).V y w->(sBf H C).V y w':=fun(y:Nat) w w' hE h=>⟨h.1,h.2.ext hE (fun hm=>by have h1:y=g:=jA.1 hm;have h2:H<=y:=h.1;omega)⟩
theorem Rd (b:Bf):∀u∈bfC b,u.oneCell'=true:=by
 intro u hu;simp only[bfC,jE,jH,or_false] at hu;rcases hu with rfl|rfl|rfl|rfl<;>rfl
theorem Ae2 {a b:Nat}{x y:Ba}{R:Nat->World->World->Prop}(hx:∀j,j≠a->∀u w w',R j w w'->x.V u w->x.V u w')(hy:∀j,j≠b->∀u w w',R j w w'->y.V u w->y.V u w') :
  ∀i s j,Bi [(a,x),(b,y)] i=some s->j≠i->∀u w w',R j w w'->s.V u w->s.V u w':=fun i s j h hj=>by
 have hm:=Fx h;simp only[jE,Prod.mk.injEq,jH,or_false] at hm;rcases hm with⟨rfl,rfl⟩|⟨rfl,rfl⟩
 ·exact hx j hj
 ·exact hy j hj
def JD (w0:World)(base g n:Nat)(T:List Nat)(ka kc:Nat)(r:Nat->Bool)(w:World):Prop:=(r ka=true->Ext [g] w0 w)/\Ext (g :: T) w0 w/\Stm w base g (if r kc then n+1 else n)
def RD (g:Nat)(T:List Nat)(ka:Nat)(j:Nat)(w w':World):Prop:=if j=ka then Ext T w w' else Ext [g] w w'
section
variable {w0 w w':World} {base g n ka kc i:Nat} {T:List Nat} {r:Nat->Bool}
theorem JD.grow (h:JD w0 base g n T ka kc r w)(hi:i≠ka)(hc:i≠kc)(hE:Ext [] w w'):JD w0 base g n T ka kc (off r i) w':=by
 have e:off r i ka=r ka:=by unfold off;simp[Ne.symm hi]
 have e2:off r i kc=r kc:=by unfold off;simp[Ne.symm hc]
 unfold JD;rw[e,e2];exact⟨fun hr=>(h.1 hr).trans hE.nil,h.2.1.trans hE.nil,h.2.2.ext hE (by simp) (by simp)⟩
theorem JD.call (h:JD w0 base g n T ka kc r w)(hk:kc≠ka)(hE:Ext [g] w w')(hS:Stm w' base g n):JD w0 base g n T ka kc (off r kc) w':=by
 have e:off r kc ka=r ka:=by unfold off;simp[Ne.symm hk]
 have e2:off r kc kc=false:=by unfold off;simp
 unfold JD;rw[e,e2];exact⟨fun hr=>(h.1 hr).trans hE,h.2.1.step hE fun x hx=>.inl (by rw[jA.1 hx];simp),hS⟩
theorem JD.app (h:JD w0 base g n T ka kc r w)(hk:ka≠kc)(hE:Ext T w w')(hg:g∉T)(hb:∀x∈T,base<=x):JD w0 base g n T ka kc (off r ka) w':=by
 have e:off r ka ka=false:=by unfold off;simp
 have e2:off r ka kc=r kc:=by unfold off;simp[Ne.symm hk]
 unfold JD;rw[e,e2];exact⟨(fun hr=>by cases hr),h.2.1.step hE fun x hx=>.inl (by simp[hx]),h.2.2.ext hE hg hb⟩
theorem RD.all {j:Nat}(h:RD g T ka j w w'):Ext (g :: T) w w':=by
 unfold RD at h;split at h
 ·exact(jF _ w).step h fun x hx=>.inl (by simp[hx])
 ·exact(jF _ w).step h fun x hx=>.inl (by rw[jA.1 hx];simp)
theorem RD.pre {j:Nat}(h:RD g T ka j w w')(hj:j≠ka):Ext [g] w w':=by
 unfold RD at h;rw[ijn hj] at h;exact h
theorem rgD {id:Nat}{Q:Exit->Act->World->Prop}{a:Act}{w:World}{l:List Oper}(p ka kc base g n:Nat)(T:List Nat)(ks:List (Nat×Ba))
  (hn:Bi ks ka≠none) (hn2:Bi ks kc≠none)
  (hG:∀oi,l.toArray[ka]? = some oi->oi.guard=none) (hG2:∀oi,l.toArray[kc]? = some oi->oi.guard=none)
  (hs:∀i s j,Bi ks i=some s->j≠i->∀x w w',RD g T ka j w w'->s.V x w->s.V x w') (h0:Stm w base g (n+1))
  (h:Bb prog l.toArray p (JD w base g n T ka kc) (RD g T ka) (Bi ks) (fun a w=>wpList prog l.toArray Q (l.drop p) a w) 0 (l.take p) a (fun _ _=>True)) (hm:(prog).follows .mixedOrders=true:=by kernel_rfl) (hB:Ir l.toArray p=true:=by kernel_rfl):(Code.region id l.toArray true).wp prog Q a w:=
 De p (JD w base g n T ka kc) (RD g T ka) (Bi ks) hm hB (fun i r w hi hg hJ=>by
  have h1:i≠ka:=by
   rintro rfl;rcases hi with hi|⟨oi,h1,h2⟩
   ·exact hn hi
   ·exact h2 (hG oi h1)
  have h2:i≠kc:=by
   rintro rfl;rcases hi with hi|⟨oi,h1,h2⟩
   ·exact hn2 hi
   ·exact h2 (hG2 oi h1)
  exact hJ.grow h1 h2 (jF _ _)) hs ⟨fun _=>(jF _ _).drew,(jF _ _).drew,by
   split
   ·exact h0
   ·exact h0.less (by omega)⟩ h
end
section
variable {P:Program} {ops:Array Oper} {p:Nat} {S:Nat->Option Ba} {Q:Act->World->Prop} {k:Nat} {o:Oper} {rest:List Oper} {a:Act} {F:Nat->World->Prop} {w0:World} {base g n ka kc:Nat} {T:List Nat}
theorem Ae3 (s:Ba)(hS:S k=some s)(hw:Region.wanted o (yielded ops a.tmps)=true)(hk:k=kc)(hka:kc≠ka)
  (hh:∃(f:FuncId) (a1:Array Value),(∀w,(execOp a.eval o).run P w=.ok (.enter f a1) w)/\
   (∀w,Ext (g :: T) w0 w->Stm w base g (n+1)->(∀e∈o.after,Region.binds .any e=true->F e.on w)->Calls P f a1 w fun e w'=>∃x,e=.returned (s.f x)/\s.V x w'/\Ext [g] w w'/\Stm w' base g n))
  (h:∀x:s.α,Bb P ops p (JD w0 base g n T ka kc) (RD g T ka) S Q (k+1) rest (a.put o.dst (s.f x)) (upd F k (s.V x))):Bb P ops p (JD w0 base g n T ka kc) (RD g T ka) S Q k (o :: rest) a F:=by
 subst hk;obtain⟨f,a1,hr,hu⟩:=hh;refine Fw s hS hw ⟨f,a1,hr,fun w r hg hJ hf=>(hu w hJ.2.1 (by have h2:=hJ.2.2;rw[ijp hg.mine] at h2;exact h2) hf).mono ?_⟩ h
 rintro e w' ⟨x,he,hV,hE,a2⟩;exact⟨x,he,hV,hJ.call hka hE a2,by unfold RD;rw[ijn hka];exact hE⟩
theorem Zu (s:Ba)(hS:S k=some s)(hw:Region.wanted o (yielded ops a.tmps)=true)(hk:k≠ka)(hk2:k≠kc)
  (hr:∀w,Ext (g :: T) w0 w->(∀e∈o.after,Region.binds .any e=true->F e.on w)->∃x ob,(execOp a.eval o).run P w=.ok (.value (s.f x)) (w.alloc ob)/\s.V x (w.alloc ob))
  (h:∀x:s.α,Bb P ops p (JD w0 base g n T ka kc) (RD g T ka) S Q (k+1) rest (a.put o.dst (s.f x)) (upd F k (s.V x))):Bb P ops p (JD w0 base g n T ka kc) (RD g T ka) S Q k (o :: rest) a F:=
 Rw s hS hw (fun w ob r hg hJ=>hJ.grow hk hk2 ((jF _ _).alloc _)) (fun w ob=>by unfold RD;rw[ijn hk];exact((jF _ _).alloc _)) (fun w r hg hJ hf=>hr w hJ.2.1 hf) h
end
section
variable {ops:Array Oper} {p:Nat} {S:Nat->Option Ba} {Q:Act->World->Prop} {k:Nat} {o:Oper} {rest:List Oper} {a:Act} {F:Nat->World->Prop} {w0:World} {base g n ka kc:Nat} {T:List Nat}
theorem Ahz (j b:Nat)(t B sz:Nat)(e:TypeId)(i:TypeInfo)(z:Value)(bytes:Nat)(v:Value)(m c:Nat)(l:List Value)(s x:Operand)(X9:Nat->List Value->World->Prop)(X:List Value->Nat->World->Prop)(V9:Nat->World->Prop)
  (hS:S k=some (Pk B e sz m l X)) (hgd:o.guard=none) (ho:o.op=.call {callee:=.builtin .append,args:=#[s,x],argTypes:=#[t,t] })
  (ht:prog.underlying t=some (.slice e)) (hi:prog.info? e=some i) (hz:i.zero=some z) (hsize:i.size=sz) (hby:i.bytes=bytes) (hzs:z.cells.size=sz) (hsz:0<sz)
  (hs:a.eval s=v) (hx:a.eval x=.slice (some b) 1 c) (hT:T=v.ownBlock.toList) (hk:k=ka) (hkc:ka≠kc) (hgT:g∉T) (hbT:∀x∈T,base<=x)
  (hv:∀w,Ext [g] w0 w->w.ownsRow B e sz v m l)
  (hj:o.after.any (fun e=>Region.binds .any e&&e.on==j)=true) (hF:F j=V9 b) (hV9:∀w,V9 b w->∃us,us.length=1*sz/\(∀j u,us[j]? = some u->w.cell? ⟨b,j,none⟩=some u)/\(∀u∈us,u.oneCell'=true)/\X9 b us w)
  (hX:∀y g w w',X9 b y w->Ext T w w'->(v.ownBlock=some g\/g=w.heap.size)->g<w'.heap.size->X y g w')
  (h63:m+1<=maxLen) (hbytes:(m+1)*bytes<=140737488355328) (hbase:B<=w0.heap.size)
  (h:∀u:Nat×Nat,Bb prog ops p (JD w0 base g n T ka kc) (RD g T ka) S Q (k+1) rest (a.put o.dst (.slice (some u.1) (m+1) u.2)) (upd F k ((Pk B e sz m l X).V u))) :
  Bb prog ops p (JD w0 base g n T ka kc) (RD g T ka) S Q k (o :: rest) a F:=by
 subst hT;subst hk;refine Bv _ hS (by simp[Region.wanted,hgd]) (fun w q hgo hJ hf=>?_) h
 have h9:=Bd hf j hj;rw[hF] at h9;obtain⟨us,a1,hu,a2,a6⟩:=hV9 w h9;obtain⟨g8,cap,w',hr,a7,hg,a8,aa⟩:=run_append_lies (P:=prog) w t o.type B e i z sz bytes ht hi hz hsize hby hzs hsz v m l (hv w (hJ.1 hgo.mine)) ⟨b,0,none⟩ 1 c us a1 (fun j u hj=>by rw[Addr.add_mk,Nat.zero_add];exact hu j u hj) a2 (by decide) h63 hbytes (nt hbase hJ.2.1.size) _ rfl;have hE:Ext v.ownBlock.toList w w':=(jF _ w).grown hg (fun k hk=>.inl (by rw[hk];simp));refine⟨(g8,cap),w',?_,⟨us,hX _ _ _ _ a6 hE a8 aa,a7⟩,hJ.app hkc hE hgT hbT,by unfold RD;rw[ijp rfl];exact hE⟩
 unfold execOp;simp only[ho,resolve,invoke,builtin,Sem.run_bind,Sem.run_pure,Result.andThen_ok,List.map_toArray,List.map_cons,List.map_nil,hs,hx,hr];rfl
end
def bfX (v:Value)(H9:Nat)(b:Bf)(ys:List Value)(g:Nat)(w:World):Prop:=ys=bfC b/\(v.ownBlock=some g\/H9<=g)
theorem Alc {d:Nat}(h:d<=3):BD d<=BD 3:=Nat.mul_le_mul_left _ (Nat.pow_le_pow_right (by omega) h)
theorem Adc {w:World}{B e s n c:Nat}{A:Option Addr}{xs:List Value}(h:w.ownsRow B e s (.slice A n c) n xs):n<=c/\c<=9223372036854775807:=by
 rcases h.2 with⟨h1,h2⟩|⟨g,cap,a1,h1,-,-,h2,h3,-⟩
 ·cases h1;exact⟨jD _,by omega⟩
 ·cases h1;exact⟨h2,h3⟩
theorem Ajr {w:World}{B C e s n:Nat}{v:Value}{xs:List Value}(h:w.ownsRow B e s v n xs)(hC:C<=B):w.ownsRow C e s v n xs:=
 ⟨h.1,h.2.imp id fun⟨g,cap,cur,h1,h2,h3⟩=>⟨g,cap,cur,h1,nt hC h2,h3⟩⟩
theorem PrS.bldp {w wx:World}{H base g pb n rb:Nat}{A:Option Addr}{c:Nat}{bs:List Bf}(h:PrS w H base g pb n rb (.slice A bs.length c) bs wx)(hb:1<=bs.length/\bs.length<=9):Bld wx base g pb n A c bs (.slice none 0 0) [] 0:=
 ⟨h.stm,h.blk,by have:=h.bw;have:=h.rb0;have:=h.rbp;omega,Ajr h.own (by have:=h.bw;have:=h.rb0;have:=h.rbp;have:=h.pbH;omega),Cm _ _ _ _,hb.1,hb.2,h.siz,by simp⟩
theorem PrS.more2 {w wx wy:World}{H base g pb n m rb:Nat}{v:Value}{bs:List Bf}(h:PrS w H base g pb n rb v bs wx)(hE:Ext (g :: v.ownBlock.toList) wx wy)(hS:Stm wy base g m){g8 c8:Nat}{b:Bf}(hO:wy.ownsRow H 45 4 (.slice (some g8) (bs.length+1) c8) (bs.length+1) (bs.flatMap bfC ++ bfC b))(hg8:v.ownBlock=some g8\/wx.heap.size<=g8)
  (hb:BfA (fun q=>H<=q/\v.ownBlock≠some q) 20 wx b) (hz:1<=b.size/\b.size<=1000):PrS w H base g pb m rb (.slice (some g8) (bs.length+1) c8) (bs ++ [b]) (wy.setCell ⟨pb,1,none⟩ (.slice (some g8) (bs.length+1) c8)):=by
 have a1:Ext [pb] wy (wy.setCell ⟨pb,1,none⟩ (.slice (some g8) (bs.length+1) c8)):=jL (.inl (by simp)) (jF _ _);have g0:=h.g0;have h1:=h.rb0;have h2:=h.rbp;have h3:=h.pbH;have a2:=h.bw;have hq:∀q∈g :: v.ownBlock.toList,q=g\/H<=q:=fun q hq=>(jE.1 hq).imp id fun hq=>Ad h.own q (jC.1 hq)
 have a6:H<=g8:=Ad hO g8 rfl;have hp:Blk wy pb 188 _:=h.blk.ext hE fun hm=>by have:=hq _ hm;omega
 have step:∀z,BfA (fun q=>H<=q/\v.ownBlock≠some q) 20 wx z->BfA (fun q=>H<=q/\(Value.slice (some g8) (bs.length+1) c8).ownBlock≠some q) 20 (wy.setCell ⟨pb,1,none⟩ (.slice (some g8) (bs.length+1) c8)) z:=fun z hz=>by
  have z1:=BfA.mono (Q:=fun q=>H<=q/\q≠g8/\v.ownBlock≠some q) (fun b hb hh=>⟨hh.1,(by rintro rfl;rcases hg8 with e|e;exact hh.2 e;omega),hh.2⟩) (jD _) hz
  have z2:=BfA.ext hE (fun y hy hh=>by
   rcases jE.1 hy with rfl|hy
   ·have:=hh.1;omega
   ·exact hh.2.2 (jC.1 hy)) z1
  have z3:=BfA.ext a1 (fun y hy hh=>by rw[jA.1 hy] at hh;have:=hh.1;omega) z2;exact BfA.mono (fun b _ hh=>⟨hh.1,fun e=>by cases e;exact hh.2.1 rfl⟩) (jD _) z3
 refine⟨(h.ext.step hE fun q hqq=>by rcases hq q hqq with rfl|hh;exact .inl (by simp);exact .inr (by omega)).step a1 fun y hy=>.inr (by rw[jA.1 hy];omega),hS.ext a1 (by rw[jA];omega) (fun y hy=>by rw[jA.1 hy];omega),
  hp.set_' 1 _ _ rfl,(h.res.ext hE (fun hm=>by have:=hq _ hm;omega)).ext a1 (by rw[jA];omega),?_,fun x hx=>?_,fun x hx=>?_,h.rb0,h.rbp,h.pbH,h.g0,h.bw,nt h.hH (nt hE.size a1.size)⟩
 ·rw[jG,List.flatMap_append];have e:List.flatMap bfC [b]=bfC b:=by simp
  rw[e];exact Ah hO a1 fun q hqq=>by have:=Ad hO q hqq;rw[jA];omega
 ·rcases jN.1 hx with hx|hx
  ·exact step x (h.kid x hx)
  ·rw[jA.1 hx];exact step b hb
 ·rcases jN.1 hx with hx|hx
  ·exact h.siz x hx
  ·rw[jA.1 hx];exact hz
def Ade (H:Nat)(xs:List Int):Ba:=⟨Nat,0,fun b=>.slice (some ⟨b,0,none⟩) xs.length xs.length,fun b w=>H<=b/\Blk w b 3 (Cj xs)⟩
theorem Ah0 {P:Program}{ops:Array Oper}{p:Nat}{S:Nat->Option Ba}{Q:Act->World->Prop}{k:Nat}{o:Oper}{rest:List Oper}{a:Act}{F:Nat->World->Prop}{w0:World}{base g n ka kc:Nat}{T:List Nat}
  (s:Ba) (x:s.α) (hS:S k=some s) (hw:Region.wanted o (yielded ops a.tmps)=true) (hk:k≠ka) (hk2:k≠kc)
  (hr:∀w,(execOp a.eval o).run P w=.ok (.value (s.f x)) w) (hV:∀w,(∀e∈o.after,Region.binds .any e=true->F e.on w)->s.V x w)
  (h:∀x:s.α,Bb P ops p (JD w0 base g n T ka kc) (RD g T ka) S Q (k+1) rest (a.put o.dst (s.f x)) (upd F k (s.V x))):Bb P ops p (JD w0 base g n T ka kc) (RD g T ka) S Q k (o :: rest) a F:=
 Bv s hS hw (fun w n hg hJ hf=>⟨x,w,hr w,hV w hf,hJ.grow hk hk2 (jF _ _),by unfold RD;rw[ijn hk];exact jF _ _⟩) h
theorem Ab5 {a b c d e:Nat}{x y z q v:Ba}{R:Nat->World->World->Prop}(hx:∀j,j≠a->∀u w w',R j w w'->x.V u w->x.V u w')(hy:∀j,j≠b->∀u w w',R j w w'->y.V u w->y.V u w')(hz:∀j,j≠c->∀u w w',R j w w'->z.V u w->z.V u w')(hq:∀j,j≠d->∀u w w',R j w w'->q.V u w->q.V u w')(hv:∀j,j≠e->∀u w w',R j w w'->v.V u w->v.V u w') :
  ∀i s j,Bi [(a,x),(b,y),(c,z),(d,q),(e,v)] i=some s->j≠i->∀u w w',R j w w'->s.V u w->s.V u w':=fun i s j h hj=>by
 have hm:=Fx h;simp only[jE,Prod.mk.injEq,jH,or_false] at hm;rcases hm with⟨rfl,rfl⟩|⟨rfl,rfl⟩|⟨rfl,rfl⟩|⟨rfl,rfl⟩|⟨rfl,rfl⟩
 ·exact hx j hj
 ·exact hy j hj
 ·exact hz j hj
 ·exact hq j hj
 ·exact hv j hj
def sBz (nm:ByteArray):Ba:=⟨Int,1,fun z=>.agg (Hy nm z false none 0 0),fun z _=>1<=z/\z<=1000⟩
def Ajs (H:Nat)(nm:ByteArray):Ba:=⟨Nat×Int,(0,0),fun u=>.slice (some u.1) 1 1,fun u w=>H<=u.1/\Blk w u.1 45 (Hy nm u.2 false none 0 0)/\1<=u.2/\u.2<=1000⟩
def Akv (v:Value)(H9:Nat)(nm:ByteArray)(ys:List Value)(g:Nat)(w:World):Prop:=∃z:Int,ys=bfC ⟨nm,z,false,none,0,[]⟩/\1<=z/\z<=1000/\(v.ownBlock=some g\/H9<=g)
set_option maxRecDepth 100000 in
theorem Ot (base g n:Nat)(w:World)(h:Stm w base g (n+BD 3+2000)) :
  Calls prog 48 #[.pointer (some g)] w (PgP base g n w):=by
 have HS:=hd h;have hg:=h.lt;have bV:=h.base;clear h;go_enter func48,ntmps48
 go_upto_region 2 with fail
 have ba:=hd (((jF [g] w).alloc (.cells #[.slice none 0 0,.slice none 0 0] 29)).alloc (.cells #[.pointer (some g),.slice none 0 0,.slice none 0 0,.slice none 0 0,(0:Int)] 188));have bb:=hd ((jK w 29 #[.slice none 0 0,.slice none 0 0]).alloc (.cells #[.pointer (some g),.slice none 0 0,.slice none 0 0,.slice none 0 0,(0:Int)] 188));have aP:=hd (jK (w.alloc (.cells #[.slice none 0 0,.slice none 0 0] 29)) 188 #[.pointer (some g),.slice none 0 0,.slice none 0 0,.slice none 0 0,(0:Int)]);have bd:=hd ((HS.o.alloc (.cells #[.slice none 0 0,.slice none 0 0] 29)).alloc (.cells #[.pointer (some g),.slice none 0 0,.slice none 0 0,.slice none 0 0,(0:Int)] 188));rw[Ag] at aP;have be:((w.alloc (.cells #[.slice none 0 0,.slice none 0 0] 29)).alloc (.cells #[.pointer (some g),.slice none 0 0,.slice none 0 0,.slice none 0 0,(0:Int)] 188)).heap.size=w.heap.size+2:=by rw[Ag,Ag]
 generalize World.alloc (World.alloc w _) _=w1 at *;have aQ:Hd (PrS w (w.heap.size+2) base g (w.heap.size+1) (n+BD 3+2000) w.heap.size (.slice none 0 0) [] w1):=hd ⟨ba.o,bd.o,aP.o,bb.o,Cm _ _ _ _,fun b hb=>(by cases hb),fun b hb=>(by cases hb),jD _,by omega,by omega,hg,by omega,by omega⟩;clear ba bb aP bd be;generalize ce:w.heap.size=rb at *;generalize cf:rb+1=pb at *;generalize hH:rb+2=H at *;go_wp2_with fail
 refine(Ce base g (n+BD 3+1999) 2 4 w1 aQ.o.stm (by omega) (by omega)).mono ?_
 rintro e w2 ⟨r,rfl,hr,hE,hS⟩;have bf:=hd (aQ.o.draw hE hS);obtain⟨nb,rfl⟩:∃k:Nat,r=k:=⟨r.toNat,by omega⟩;have bh:2<=nb/\nb<=4:=by omega
 clear hE hS hr aQ;go_wp2_with fail
 go_loopw [11] (fun i wr=>∃(k:Nat) (v:Value) (bs:List Bf),i=.int .i64 k/\k<=nb/\Hd (bs.length=k)/\Hd (PrS w H base g pb (n+BD 3+1000+200*(4-k)) rb v bs wr)) (fun i _=>(nb-intOf i).toNat)
 case atStart=>exact⟨0,_,[],rfl,jQ _,hd rfl,hd (bf.o.less (by omega))⟩
 case round=>
  obtain⟨k,v,bs,rfl,hk,aN,HO⟩:=hrel;by_cases bv:k<nb
  ·have ap:(k:Int)<nb:=by omega
   have aG:=hd (jK wr 3 (Cj [1,3,5,6,8,12]));have aR:Ext [] wr (wr.alloc (.cells (Cj [1,3,5,6,8,12]) 3)):=(jF _ _).alloc _;have aq:=hd (HO.o.draw aR.nil (HO.o.stm.ext aR (by simp) (by simp)));have bW:=HO.o.stm.lt;clear aR;simp only[Cj,List.map_cons,List.map_nil] at aG aq;have bX:k<=4:=by omega
   go_upto_block 1 with fail
   go_cut [] (fun wx=>∃(v':Value) (b:Bf),Hd (PrS w H base g pb (n+BD 3+1000+200*(4-(k+1))) rb v' (bs ++ [b]) wx))
   case first=>
    go_upto_block 2 with fail
    refine(Cc base g (n+BD 3+1000+200*(4-(k+1))+190) wr.heap.size 6 3 [1,3,5,6,8,12] _ (aq.o.stm.less (by omega)) aG.o (by omega) (by decide)).mono ?_
    rintro e w5 ⟨z,rfl,hz,hE,hS⟩;have al:=hd (aq.o.draw hE hS);have bx:1<=z/\z<=12:=by simp at hz;omega
    clear hE hS hz aG aq HO;go_upto_region 6 with fail
    generalize aF:Utf8.encode _=nm;have aS:Hd (nm.size<=20):=hd (by rw[<-aF];exact nt (encode_size_le _) (by omega));clear aF;have aH:Ext [] w5 (w5.alloc (.cells #[.string nm,z,.bool false,.slice none 0 0] 45)):=(jF _ _).alloc _;have bi:=hd (jK w5 45 #[.string nm,z,.bool false,.slice none 0 0]);have ab:=hd (al.o.draw aH.nil (al.o.stm.ext aH (by simp) (by simp)));have bj:w5.heap.size<(w5.alloc (.cells #[.string nm,z,.bool false,.slice none 0 0] 45)).heap.size:=by rw[Ag];omega
    have bk:Hd (∀q,v.ownBlock=some q->q<w5.heap.size):=hd fun q hq=>(al.o.own.lt q hq).2
    have bz:=al.o.hH;have bl:Hd (∀b∈bs,BfA (fun x=>(H<=x/\v.ownBlock≠some x)/\x≠w5.heap.size) 20 (w5.alloc (.cells #[.string nm,z,.bool false,.slice none 0 0] 45)) b):=hd fun b hb=>BfA.ext aH (by simp) (BfA.mono (fun x hx hh=>⟨hh,by omega⟩) (jD _) (al.o.kid b hb))
    clear aH al;generalize World.alloc w5 _=w6 at *;generalize bU:w5.heap.size=xb at *;clear bU;have bY:g<xb:=by have:=ab.o.g0;have:=ab.o.rb0;have:=ab.o.rbp;have:=ab.o.pbH;omega
    go_upto_block 2 with fail
    refine(Cb base g (n+BD 3+1000+200*(4-(k+1))+180) 5 w6 (ab.o.stm.less (by omega)) (by omega)).mono ?_
    rintro e w7 ⟨r,rfl,hr,hE,hS⟩;have au:=hd (ab.o.draw hE hS);have aa:=hd (bi.o.ext hE (by rw[jA];omega));have ag:Hd (∀b∈bs,BfA (fun x=>(H<=x/\v.ownBlock≠some x)/\x≠xb) 20 w7 b):=hd fun b hb=>BfA.ext hE (fun y hy hh=>by rw[jA.1 hy] at hh;have:=hh.1.1;have:=ab.o.g0;have:=ab.o.rb0;have:=ab.o.rbp;have:=ab.o.pbH;omega) (bl.o b hb)
    have aT:xb<w7.heap.size:=nl bj hE.size;clear hE hS bi ab bj bl;go_upto_block 2 with fail
    go_cut [] (fun wx=>∃(st:Bool) (A:Option Addr) (c:Nat) (xs:List Int),Hd (PrS w H base g pb (n+BD 3+1000+200*(4-(k+1))+10) rb v bs wx)/\Hd (Blk wx xb 45 (Hy nm z st A xs.length c))/\Hd (Ao (fun b=>xb<b) 20 wx A 1 inC xs))
    case first=>
     have bB:v.ownBlock≠some xb:=fun e=>by have:=bk.o _ e;omega
     have aw:∀(wx:World) (m:Nat) (C:Array Value) (i:Nat) (y:Value),PrS w H base g pb m rb v bs wx->Blk wx xb 45 C->(∀b∈bs,BfA (fun x=>(H<=x/\v.ownBlock≠some x)/\x≠xb) 20 wx b)->
       PrS w H base g pb m rb v bs (wx.setCell ⟨xb,i,none⟩ y):=fun wx m C i y hp hb hk=>hp.far (q:=xb) (jL (.inl (by simp)) (jF _ _)) bz bB hk
     have ai:=hd aw;clear aw;have qx:=aa.o.cell;have aI:=aa.o.frozen;have bC:r=0\/r=1\/r=2\/r=3\/r=4:=by omega
     clear hr;rcases bC with rfl|rfl|rfl|rfl|rfl
     ·go_wp2_with fail
      go_meet
      exact⟨false,none,0,[],hd (au.o.less (by omega)),aa,hd (Ao.nil ..)⟩
     ·go_upto_region 11 with fail
      have ac:=hd (aa.o.set_' 2 (.bool true) (Hy nm z true none 0 0) rfl);have a2:=hd (ai.o _ _ _ 2 (.bool true) au.o aa.o ag.o);have a6:Hd (Ext [xb] w7 (w7.setCell ⟨xb,2,none⟩ (.bool true))):=hd (jL (.inl (by simp)) (jF _ _));have aJ:Hd (∀b∈bs,BfA (fun x=>(H<=x/\v.ownBlock≠some x)/\x≠xb) 20 (w7.setCell ⟨xb,2,none⟩ (.bool true)) b):=hd fun b hb=>BfA.ext a6.o (fun y hy hh=>hh.2 (jA.1 hy)) (ag.o b hb)
      have bm:xb<(w7.setCell ⟨xb,2,none⟩ (.bool true)).heap.size:=nl aT a6.o.size;clear qx aI aa au a6 ag aT;generalize World.setCell w7 _ _=w8 at *;have qx:=ac.o.cell;have aI:=ac.o.frozen;unfold Hy at qx;obtain⟨zn,rfl⟩:∃k:Nat,z=k:=⟨z.toNat,by omega⟩;go_wp2_with fail
      refine(Ab4 base g (n+BD 3+1000+200*(4-(k+1))+70) zn (by omega) w8 (a2.o.stm.less (by omega))).mono ?_
      rintro e w9 ⟨A,c,xs,rfl,hq,hE,hS⟩;have bD:=hd (a2.o.draw hE hS);have am:=hd (ac.o.ext hE (by rw[jA];omega));have bE:Hd (∀b∈bs,BfA (fun x=>(H<=x/\v.ownBlock≠some x)/\x≠xb) 20 w9 b):=hd fun b hb=>BfA.ext hE (fun y hy hh=>by rw[jA.1 hy] at hh;have:=hh.1.1;have:=a2.o.g0;have:=a2.o.rb0;have:=a2.o.rbp;have:=a2.o.pbH;omega) (aJ.o b hb)
      have bF:Hd (Ao (fun b=>xb<b) 20 w9 A 1 inC xs):=hd (Ao.mono hq (fun b _ hb=>by omega) (jD _));have bZ:xb<w9.heap.size:=nl bm hE.size;clear qx aI hq hE hS ac a2 aJ bm;have qx:=am.o.cell;have aI:=am.o.frozen;unfold Hy at qx;have aU:=hd (am.o.set_' 3 (.slice A xs.length c) (Hy nm zn true A xs.length c) rfl);have aV:=hd (ai.o _ _ _ 3 (.slice A xs.length c) bD.o am.o bE.o);have aW:Hd (Ext [xb] w9 (w9.setCell ⟨xb,3,none⟩ (.slice A xs.length c))):=hd (jL (.inl (by simp)) (jF _ _));have aX:=hd (Ao.ext bF.o aW.o (fun y hy=>by rw[jA.1 hy];omega));go_wp2_with fail
      go_meet
      exact⟨true,A,c,xs,hd (aV.o.less (by omega)),aU,aX⟩
     all_goals
      have ac:=hd (aa.o.set_' 2 (.bool true) (Hy nm z true none 0 0) rfl);have a2:=hd (ai.o _ _ _ 2 (.bool true) au.o aa.o ag.o);go_wp2_with fail
      go_meet
      exact⟨true,none,0,[],hd (a2.o.less (by omega)),ac,hd (Ao.nil ..)⟩
    case rest=>
     obtain⟨st,A,c,xs,a2,ac,bR⟩:=hcut;clear aa au ag aT hr;obtain⟨vA,vc,rfl,-,-⟩:=Bg a2.o.own;go_wp2_with fail
     generalize ak:wc.heap.size=H9 at *;have ae:=hd ak;have aY:Hd (g<H9):=hd (by rw[<-ak];exact a2.o.stm.lt);have bn:Hd (∀q,(Value.slice vA bs.length vc).ownBlock=some q->q<xb):=hd fun q hq=>bk.o q hq
     clear ak;have ah:Hd (∀q∈(Value.slice vA bs.length vc).ownBlock.toList,H<=q/\q<xb):=hd fun q hq=>⟨Ad a2.o.own q (jC.1 hq),bn.o q (jC.1 hq)⟩
     have bG:Hd (xb<H9):=hd (by have:=ac.o.lt;have:=ae.o;omega);have ax:Hd (pb∉(Value.slice vA bs.length vc).ownBlock.toList):=hd fun hm=>by have:=(ah.o _ hm).1;have:=a2.o.pbH;omega
     have bH:Hd (xb∉(Value.slice vA bs.length vc).ownBlock.toList):=hd fun hm=>by have:=(ah.o _ hm).2;omega
     have bI:bs.length<4:=by rw[aN.o];omega
     refine rgA 9 8 (Value.slice vA bs.length vc).ownBlock.toList [(7,sBf H9 (Hy nm z st A xs.length c)),(8,Pk H 45 4 bs.length (bs.flatMap bfC) (bfX (.slice vA bs.length vc) H9 ⟨nm,z,st,A,c,xs⟩))] rfl (by simp[Bi]) (fun oi h=>by cases h;rfl) ?_ ?_
     ·refine Ae2 (fun j hj (u:Nat) w w' hR h=>?_) fun j hj u w w' hR h=>?_
      ·exact⟨h.1,h.2.ext hR.all fun hm=>by have h1:=(ah.o _ hm).2;have h2:H9<=u:=h.1;have:=bG.o;omega⟩
      ·obtain⟨ys,h1,h2⟩:=h;exact⟨ys,h1,Ah h2 (hR.pre hj) (by simp)⟩
     simp only[TK]
     repeat(refine dEU (fun wr nr hg hJ=>by(have hA:=hJ.all;have hB:=a2.o.blk.ext hA ax.o;have hX:=ac.o.ext hA bH.o;have qp:=hB.cell;have an:=hB.lt;have qx:=hX.cell;have c0:=hX.lt;unfold Hy at qx;clear hA hB hX hg);clear hJ;exact CL) ?_;simp only[PT])
     refine Rx (sBf H9 (Hy nm z st A xs.length c)) rfl rfl (by decide) (fun wq r hg hJ hf=>?_) ?_
     ·refine⟨wq.heap.size,.cells (Hy nm z st A xs.length c) 45,?_,by have:=hJ.all.size;show H9<=wq.heap.size;have:=ae.o;omega,jK _ _ _⟩
      refine As rfl _ wq _ _ (.agg (Hy nm z st A xs.length c)) ?_ ?_
      ·rfl
      ·exact Po wq nm z st A xs.length c
     intro (kb:Nat);simp only[PT];dsimp only[sBf];obtain⟨i0,b6,b7,aj,b8⟩:=To;refine Zl 7 kb 26 H 4 45 i0 _ 56 (.slice vA bs.length vc) bs.length 1 (bs.flatMap bfC) _ _ (fun b ys w=>H9<=w.heap.size/\ys=bfC ⟨nm,z,st,A,c,xs⟩) (bfX (.slice vA bs.length vc) H9 ⟨nm,z,st,A,c,xs⟩) (sBf H9 (Hy nm z st A xs.length c)).V rfl rfl rfl (by kernel_rfl) b6 b7 aj b8 rfl (by decide) rfl rfl rfl rfl ?_ (by kernel_rfl) rfl ?_ ?_ ?_ ?_ ?_ ?_
     ·exact fun wr hE=>Ah a2.o.own hE (by simp)
     ·exact fun w ⟨h0,h1⟩=>⟨_,rfl,fun j u hj=>by rw[h1.cell,<-Array.getElem?_toList];exact hj,Rd _,nt h0 (Nat.le_of_lt h1.lt),rfl⟩
     ·rintro y g8 w8 w9 ⟨h0,rfl⟩ hE hg bv;exact⟨rfl,hg.imp id (fun h=>by omega)⟩
     ·unfold maxLen;omega
     ·omega
     ·have:=ae.o;have:=a2.o.hH;omega
     intro u9;simp only[PT];refine Ci (fun w8 r hr hJ hF=>?_)
     have aZ:(Pk H 45 4 bs.length (bs.flatMap bfC) (bfX (.slice vA bs.length vc) H9 ⟨nm,z,st,A,c,xs⟩)).V u9 w8:=hF 8;obtain⟨g8,c8⟩:=u9;obtain⟨ys,⟨rfl,ad⟩,aE⟩:=aZ;have a6:=hd hJ.all;have bJ:Hd (BfA (fun q=>H<=q/\(Value.slice vA bs.length vc).ownBlock≠some q) 20 wc ⟨nm,z,st,A,c,xs⟩):=hd ⟨Ao.mono bR.o (fun b _ hb=>⟨by omega,fun e=>by have:=bn.o b e;omega⟩) (jD _),aS.o⟩;have ay:=hd ((a2.o.less (m:=n+BD 3+1000+200*(4-(k+1))) (by omega)).more a6.o aE (ad.imp id fun e=>by have:=ae.o;omega) bJ.o (show(1:Int)<=z/\z<=1000 by omega));have af:=a2.o.blk.ext a6.o ax.o;have qp:=af.cell;have aK:=af.frozen;have an:=af.lt;clear hF hJ hr aE ad af;dsimp only[Pk];go_wp2_with fail
     go_meet
     exact⟨_,_,ay⟩
   case rest=>
    obtain⟨v',b,ay⟩:=hcut;clear aG aq HO;go_wp2_with fail
    go_roundw
    case rel=>exact⟨k+1,_,bs ++ [b],by go_num,by omega,hd (by rw[jG,aN.o];rfl),ay⟩
    case measure=>simp[intOf];omega
  ·have bK:k=nb:=by omega
   have ap:¬(k:Int)<nb:=by omega
   subst bK;have b0:=hd (HO.o.less (m:=n+BD 3+1000) (by omega));have c1:2<=bs.length/\bs.length<=4:=by rw[aN.o];exact bh
   clear HO bf;go_upto_if 49 with fail
   refine(Gf base g (n+BD 3+900) 2 wr (b0.o.stm.less (by omega)) (by omega)).mono ?_
   rintro e w4 ⟨fl,rfl,hE,hS⟩;have a1:=hd (b0.o.draw hE hS);clear hE hS b0;go_upto_if 49 with fail
   go_cut [] (fun wx=>∃(v':Value) (a8:List Bf),Hd (PrS w H base g pb (n+BD 3+800) rb v' a8 wx)/\2<=a8.length/\a8.length<=5)
   case first=>
    cases fl with
    | false=>
     go_wp2_with fail
     go_meet
     exact⟨_,_,hd (a1.o.less (by omega)),by omega,by omega⟩
    | true=>
     obtain⟨vA,vc,rfl,-,-⟩:=Bg a1.o.own;go_upto_region 15 with fail
     generalize ak:w4.heap.size=H9 at *;have ae:=hd ak;have aY:Hd (g<H9):=hd (by rw[<-ak];exact a1.o.stm.lt);clear ak;have ah:Hd (∀q∈(Value.slice vA bs.length vc).ownBlock.toList,H<=q/\q<H9):=hd fun q hq=>⟨Ad a1.o.own q (jC.1 hq),by have:=(a1.o.own.lt q (jC.1 hq)).2;have:=ae.o;omega⟩
     have ax:Hd (pb∉g :: (Value.slice vA bs.length vc).ownBlock.toList):=hd fun hm=>by
      have h1:=a1.o.pbH;have h2:=a1.o.g0;have h3:=a1.o.rb0;have h4:=a1.o.rbp;rcases jE.1 hm with hm|hm
      ·omega
      ·have:=(ah.o _ hm).1;omega
     have bL:Hd (g∉(Value.slice vA bs.length vc).ownBlock.toList):=hd fun hm=>by have:=(ah.o _ hm).1;have h1:=a1.o.pbH;have h2:=a1.o.g0;have h3:=a1.o.rb0;have h4:=a1.o.rbp;omega
     have bI:bs.length<5:=by omega
     generalize aF:(⟨#[116]⟩:ByteArray)=nm;have aS:Hd (nm.size<=20):=hd (by rw[<-aF];decide);clear aF;refine rgD 12 11 8 base g (n+BD 3+800) (Value.slice vA bs.length vc).ownBlock.toList [(7,Ade H9 [3,6,8]),(8,sIn 1 1000),(9,sBz nm),(10,Ajs H9 nm),(11,Pk H 45 4 bs.length (bs.flatMap bfC) (Akv (.slice vA bs.length vc) H9 nm))] (by simp[Bi]) (by simp[Bi]) (fun oi h=>by cases h;rfl) (fun oi h=>by cases h;rfl) ?_ (a1.o.stm.less (by omega)) ?_
     ·have bo:∀b,H9<=b->b∉g :: (Value.slice vA bs.length vc).ownBlock.toList:=fun b hb hm=>by
       rcases jE.1 hm with hm|hm
       ·have:=aY.o;omega
       ·have:=(ah.o _ hm).2;omega
      refine Ab5 (fun j hj (u:Nat) w w' hR h=>?_) (fun j hj u w w' hR h=>h) (fun j hj u w w' hR h=>h) (fun j hj u w w' hR h=>?_) fun j hj u w w' hR h=>?_
      ·exact⟨h.1,h.2.ext hR.all (bo _ h.1)⟩
      ·exact⟨h.1,h.2.1.ext hR.all (bo _ h.1),h.2.2⟩
      ·obtain⟨ys,h1,h2⟩:=h;exact⟨ys,h1,Ah h2 (hR.pre hj) fun q hq=>by have:=Ad h2 q hq;have h3:=a1.o.pbH;have h4:=a1.o.g0;have h5:=a1.o.rb0;have h6:=a1.o.rbp;rw[jA];omega⟩
     simp only[TK]
     repeat(refine dEU (fun wr nr hg hJ=>by(have hA:=hJ.2.1;have hB:=a1.o.blk.ext hA ax.o;have qp:=hB.cell;have an:=hB.lt;clear hA hB hg);clear hJ;exact CL) ?_;simp only[PT])
     refine Zu (Ade H9 [3,6,8]) rfl rfl (by decide) (by decide) (fun wq hE hf=>?_) ?_
     ·refine⟨wq.heap.size,.cells (Cj [3,6,8]) 3,?_,by have:=hE.size;show H9<=wq.heap.size;have:=ae.o;omega,jK _ _ _⟩
      go_simp;try first|rfl|exact⟨rfl,rfl⟩
     intro (b1:Nat);simp only[PT];dsimp only[Ade];refine Ae3 (sIn 1 1000) rfl rfl rfl (by decide) ?_ ?_
     ·refine EC fun wr hE hS hf=>?_
      obtain⟨h1,hB⟩:=(Bd hf 7 (by kernel_rfl):(Ade H9 [3,6,8]).V b1 wr);refine(Cc base g (n+BD 3+800) b1 3 3 [3,6,8] wr hS hB (by have:=aY.o;have h2:H9<=b1:=h1;omega) (by decide)).mono ?_
      rintro e w' ⟨r,rfl,hr,bS,bT⟩;exact⟨r,rfl,by simp at hr;show(1:Int)<=r/\r<=1000;omega,bS,bT⟩
     intro (z:Int);simp only[PT];dsimp only[sIn];refine Ah0 (sBz nm) z rfl rfl (by decide) (by decide) (fun wr=>?_) (fun wr hf=>(Bd hf 8 (by kernel_rfl):(sIn 1 1000).V z wr)) ?_
     ·go_simp
      first|rfl|exact⟨rfl,rfl⟩
     intro (z1:Int);simp only[PT];dsimp only[sBz];refine Zu (Ajs H9 nm) rfl rfl (by decide) (by decide) (fun wq hE hf=>?_) ?_
     ·have hz:=(Bd hf 9 (by kernel_rfl):(sBz nm).V z1 wq);refine⟨(wq.heap.size,z1),.cells (Hy nm z1 false none 0 0) 45,?_,by have:=hE.size;show H9<=wq.heap.size;have:=ae.o;omega,jK _ _ _,hz⟩
      refine As rfl _ wq _ _ (.agg (Hy nm z1 false none 0 0)) ?_ ?_
      ·rfl
      ·exact Po wq nm z1 false none 0 0
     rintro⟨kb,z2⟩;simp only[PT];dsimp only[Ajs];obtain⟨i0,b6,b7,aj,b8⟩:=To;refine Ahz 10 kb 26 H 4 45 i0 _ 56 (.slice vA bs.length vc) bs.length 1 (bs.flatMap bfC) _ _ (fun b ys w=>H9<=w.heap.size/\ys=bfC ⟨nm,z2,false,none,0,[]⟩/\1<=z2/\z2<=1000) (Akv (.slice vA bs.length vc) H9 nm) (fun b w=>(Ajs H9 nm).V (b,z2) w) rfl rfl rfl (by kernel_rfl) b6 b7 aj b8 rfl (by decide) rfl rfl rfl rfl (by decide) bL.o (fun x hx=>by have h1:=(ah.o x hx).1;have h2:=a1.o.bw;have h3:=a1.o.rb0;have h4:=a1.o.rbp;have h5:=a1.o.pbH;omega) ?_ (by kernel_rfl) rfl ?_ ?_ ?_ ?_ ?_ ?_
     ·exact fun wr hE=>Ah a1.o.own hE fun q hq=>by have:=Ad a1.o.own q hq;have h3:=a1.o.pbH;have h4:=a1.o.g0;have h5:=a1.o.rb0;have h6:=a1.o.rbp;rw[jA];omega
     ·exact fun w ⟨h0,h1,h2⟩=>⟨_,rfl,fun j u hj=>by rw[h1.cell,<-Array.getElem?_toList];exact hj,Rd _,nt h0 (Nat.le_of_lt h1.lt),rfl,h2⟩
     ·rintro y g8 w8 w9 ⟨h0,rfl,h1⟩ hE hg bv;exact⟨z2,rfl,h1.1,h1.2,hg.imp id (fun h=>by omega)⟩
     ·unfold maxLen;omega
     ·omega
     ·have:=ae.o;have:=a1.o.hH;omega
     intro u9;simp only[PT];refine Ci (fun w8 r hr hJ hF=>?_)
     have aZ:(Pk H 45 4 bs.length (bs.flatMap bfC) (Akv (.slice vA bs.length vc) H9 nm)).V u9 w8:=hF 11;obtain⟨g8,c8⟩:=u9;obtain⟨ys,⟨z,rfl,bx,c9,ad⟩,aE⟩:=aZ;have a6:=hd hJ.2.1;have b2:=hd (hJ.2.2.less (m:=n+BD 3+800) (by split<;>omega));have ay:=hd (a1.o.more2 a6.o b2.o aE (ad.imp id fun e=>by have:=ae.o;omega) (b:=⟨nm,z,false,none,0,[]⟩) ⟨Ao.nil ..,aS.o⟩ (show(1:Int)<=z/\z<=1000 by omega));have af:=a1.o.blk.ext a6.o ax.o;have qp:=af.cell;have aK:=af.frozen;have an:=af.lt;clear hF hJ hr aE ad af;dsimp only[Pk];go_wp2_with fail
     go_meet
     exact⟨_,_,ay,by rw[jG,jS];omega,by rw[jG,jS];omega⟩
   case rest=>
    obtain⟨v',a8,aO,ca,cb⟩:=hcut;obtain⟨bA,bc,rfl,-,-⟩:=Bg aO.o.own;clear a1 aN bh ap hk;go_wp2_with fail
    refine(Ce base g (n+BD 3+700) 1 3 wc (aO.o.stm.less (by omega)) (by omega) (by omega)).mono ?_
    rintro e w6 ⟨r,rfl,hr,hE,hS⟩;have a7:=hd (aO.o.draw hE hS);obtain⟨d,rfl⟩:∃k:Nat,r=k:=⟨r.toNat,by omega⟩;have bp:d<=3:=by omega
    clear hE hS hr aO;go_wp2_with fail
    have bq:=hd (Vx d bp base g pb (n+700) bc bA a8 (.slice none 0 0) [] 0 3 w6 (jD _) (by rw[List.length_nil];omega) ((a7.o.less (m:=n+700+BD d) (by have:=Alc bp;omega)).bldp ⟨by omega,by omega⟩));refine bq.o.mono ?_
    rintro e w7 ⟨A,c,ss,V',cnt',rfl,hq,hs,hA⟩;have az:Hd (Ext [g,pb] w6 w7):=hd hA.ext;have aA:=hd hA.bld.blk;have br:=hd hA.bld.stm;have bM:=hd (Adc a7.o.own);have be:=hA.bld.b9;have bt:=hd (Ao.mono (Q:=fun b=>H<=b) hq (fun b _ hb=>by have:=hb.1;have:=a7.o.hH;omega) (jD _));have ag:=hd (fun s hs'=>StA.mono (Q:=fun b=>H<=b) (fun b _ hb=>by have:=hb.1;have:=a7.o.hH;omega) (jD _) (hs s hs'));have c2:=a7.o.g0;have c3:=a7.o.rb0;have c4:=a7.o.rbp;have c5:=a7.o.pbH;have bu:=hd (a7.o.res.ext az.o (by simp;omega))
    have aB:Hd (Ao (fun b=>H<=b) 20 w7 bA 4 bfC a8):=hd (by
     have hO:=Ah a7.o.own az.o fun q hq=>by have:=Ad a7.o.own q hq;simp;omega
     exact(Ao.own (P:=fun b=>H<=b) (N:=20) Oo hO (by omega) (by decide) (fun q _ h1 _=>h1)).2)
    have aC:Hd (∀b∈a8,BfA (fun b=>H<=b) 20 w7 b):=hd fun b hb=>BfA.ext az.o (by intro x hx hh;simp at hx;omega) (BfA.mono (fun b _ hh=>hh.1) (jD _) (a7.o.kid b hb))
    have aa:=hd (a7.o.ext.step az.o fun x hx=>by simp at hx;rcases hx with rfl|rfl;exact .inl (by simp);exact .inr (by omega));clear hA hq hs a7 bq;have qp:=aA.o.cell;have aK:=aA.o.frozen;have an:=aA.o.lt;unfold Db at qp;go_upto_region 17 with fail
    have a6:Hd (Ext [pb] w7 (w7.setCell ⟨pb,2,none⟩ (.slice A ss.length c))):=hd (jL (.inl (by simp)) (jF _ _));have b3:=hd (aA.o.set_' 2 (.slice A ss.length c) #[.pointer (some g),.slice bA a8.length bc,.slice A ss.length c,V',cnt'] rfl);have aL:=hd (bu.o.ext a6.o (by rw[jA];omega));have aD:∀x∈[pb],¬(H<=x):=fun x hx=>by rw[jA.1 hx];omega
    have bN:=hd (Ao.ext bt.o a6.o aD);have aJ:=hd (fun s hs'=>StA.ext a6.o aD (ag.o s hs'));have b4:=hd (Ao.ext aB.o a6.o aD);have b5:=hd (fun b hb=>BfA.ext a6.o aD (aC.o b hb));have ac:=hd (aa.o.step a6.o fun x hx=>.inr (by rw[jA.1 hx];omega));have b2:=hd (br.o.ext a6.o (by rw[jA];omega) (fun x hx=>by rw[jA.1 hx];omega));clear qp aK an az aA bu bt ag aB aC aa br a6 aD;generalize World.setCell w7 _ _=w8 at *;have qp:=b3.o.cell;have aK:=b3.o.frozen;have an:=b3.o.lt;have qr:=aL.o.cell;have c6:=aL.o.frozen;have c7:=aL.o.lt;have ao:=hd ((jL (b:=rb) (i:=0) (u:=.slice bA a8.length bc) (.inl (by simp)) (jF [rb] w8)).trans (jL (b:=rb) (i:=1) (u:=.slice A ss.length c) (.inl (by simp)) (jF [rb] _)));have bO:=hd ((aL.o.set_' 0 (.slice bA a8.length bc) #[.slice bA a8.length bc,.slice none 0 0] rfl).set_' 1 (.slice A ss.length c) #[.slice bA a8.length bc,.slice A ss.length c] rfl);go_wp2_with fail
    have aM:∀x∈[rb],¬(H<=x):=fun x hx=>by rw[jA.1 hx];omega
    have low:∀b,H<=b->w.heap.size<=b:=fun b hb=>by omega
    have bP:Hd (PgA (fun b=>w.heap.size<=b) 30 _ ⟨bA,bc,a8,A,c,ss⟩):=hd ⟨Ao.mono (Ao.ext b4.o ao.o aM) (fun b _ hb=>low b hb) (by omega),fun b hb=>BfA.mono (fun b _ hb=>low b hb) (by omega) (BfA.ext ao.o aM (b5.o b hb)),bM.o,
     Ao.mono (Ao.ext bN.o ao.o aM) (fun b _ hb=>low b hb) (by omega),fun s hs=>StA.mono (fun b _ hb=>low b hb) (by omega) (StA.ext ao.o aM (aJ.o s hs))⟩
    have am:=hd (ac.o.step ao.o fun x hx=>.inr (by rw[jA.1 hx];omega));have bQ:=hd (b2.o.ext ao.o (by rw[jA];omega) (fun x hx=>by rw[jA.1 hx];omega));refine bodyPost_ret (results_cell_row rfl _ _ rb 29 _ (0,0) _ rfl bO.o underlying29 rfl (by kernel_rfl)) rfl ⟨⟨bA,bc,a8,A,c,ss⟩,rfl,bP.o,am.o,bQ.o.less (by omega)⟩
end
theorem Re (x:ByteArray×Int):(tmC x).length=2:=rfl
theorem Xl (x:ByteArray×Int):∀u∈tmC x,u.oneCell'=true:=by
 intro u hu;simp only[tmC,jE,jH,or_false] at hu;rcases hu with rfl|rfl<;>rfl
theorem Adf (x:Int):∀u∈inC x,u.oneCell'=true:=by
 intro u hu;simp only[inC,jE,jH,or_false] at hu;rw[hu];rfl
theorem Ej {α:Type}{cs:α->List Value}{k:Nat}(hs:∀x,(cs x).length=k):∀l:List α,(l.flatMap cs).length=l.length*k
 | []=>by simp
 | x :: l=>by rw[List.flatMap_cons,jG,hs,Ej hs l,List.length_cons,Nat.succ_mul];omega
theorem Ig {α:Type}{P:Nat->Prop}{N:Nat}{w:World}{b k:Nat}{cs:α->List Value}{l:List α}(hs:∀x,(cs x).length=k)(hk:0<k)(h:Ao P N w (some b) k cs l)(j:Nat)(u:Value)(hj:(l.flatMap cs)[j]? = some u):w.cell? ⟨b,j,none⟩=some u:=by
 have a1:=(ils hj).1;rw[Ej hs] at a1;rcases h.2 with rfl|⟨b',hb,-,-,hc⟩
 ·simp at hj
 ·cases hb
  have hi:j / k<l.length:=(Nat.div_lt_iff_lt_mul hk).2 a1;have hr:j % k<k:=Nat.mod_lt _ hk;have e:j / k*k+j % k=j:=by rw[Nat.mul_comm];exact Nat.div_add_mod j k
  have hx:l[j / k]? = some l[j / k]:=jJ hi;have hg:=Dk hs hx hr;rw[e,hj] at hg;have:=hc (j / k) _ hx (j % k) u hg.symm;rw[e] at this;exact this
def Ae4 (t:TypeId)(k:Nat)(n:Nat)(xs:List Value)(w:World)(e:Ending)(w':World):Prop:=∃v,e=.returned v/\w'.ownsRow w.heap.size t k v n xs/\Ext [] w w'
set_option maxRecDepth 100000 in
theorem Ah1 (P:Nat->Prop)(N:Nat)(A:Option Addr)(n cap:Nat)(l:List (ByteArray×Int))(w:World)(h:Ao P N w A 2 tmC l)(hl:l.length=n)(h9:n<=1000000) :
  Calls prog 200 #[.slice A n cap] w (Ae4 178 2 n (l.flatMap tmC) w):=by
 obtain⟨i0,a1,a8,aa,ab⟩:=Abv;have ac:∀W:World,(binOp .eql 36 (.slice A n cap) (.slice none 0 0)).run prog W=.ok (.bool A.isNone) W:=fun W=>Go.Lib.run_eql_slice_nil (P:=prog) (w:=W) (h:=underlying36) ..
 cases A with
 | none=>
  have hv:l=[]:=by
   rcases h.2 with h|⟨b,hb,-⟩
   ·exact h
   ·cases hb
  subst hv;simp at hl;subst hl;go_enter func200,ntmps200
  go_wp2_with fail
  go_ret
  exact⟨_,rfl,Cm _ _ _ _,jF _ _⟩
 | some a=>
  by_cases h0:n=0
  ·subst h0;have hv:l=[]:=List.length_eq_zero_iff.1 hl;subst hv
   have hr:∀ty,(Builtin.append_ #[36,36] ty #[.slice (some w.heap.size) 0 0,.slice (some a) 0 cap]).run prog (w.alloc (.cells #[] 178))=.ok (.slice (some w.heap.size) 0 0) (w.alloc (.cells #[] 178)):=fun ty=>
    run_append_room_cells (P:=prog) _ 36 ty 178 i0 underlying36 a1 w.heap.size 0 0 0 a 0 cap [] (by simp) (by simp) (by simp) (by omega) (by simp) (by simp)
   go_enter func200,ntmps200
   go_wp2_with (at_builtin;refine Lib.wpList_append_run _ rfl _ _ _ _ rfl _ _ rfl rfl _ _ (hr _) ?_)
   go_ret
   exact⟨_,rfl,World.ownsRow_made w #[] 0 (jD _) (by decide) (by simp),(jF [] w).alloc _⟩
  ·obtain⟨b,hb,ad⟩:∃b,a=⟨b,0,none⟩/\b<w.heap.size:=by
    rcases h.2 with hh|⟨b,hb,-,hw,-⟩
    ·rw[hh] at hl;simp at hl;omega
    ·cases hb;exact⟨b,rfl,hw⟩
   subst hb;have HC:=hd (Ig Re (by decide) h);have HL:=hd hl;have a6:Hd ((l.flatMap tmC).length=n*2):=hd (by rw[Ej Re,hl]);generalize a2:l.flatMap tmC=xs at *;have a7:Hd (∀u∈xs,u.oneCell'=true):=hd fun u hu=>by rw[<-a2] at hu;obtain⟨y,-,hy⟩:=List.mem_flatMap.1 hu;exact Xl y u hy
   clear h hl a2;go_enter func200,ntmps200
   go_wp2_with (
    refine wpList_append_lies _ rfl _ _ 36 rfl w.heap.size 178 i0 _ 2 24 underlying36 a1 a8 aa ab rfl (by decide) _ 0 [] rfl ?c0 ⟨b,0,none⟩ n cap xs rfl a6.o ?c1 a7.o (by omega) ?c3 ?c4 ?c5 _ rfl ?_
    case c0=>exact World.ownsRow_made w #[] 0 (jD _) (by decide) (by simp)
    case c1=>
     intro i x hx;rw[Addr.add_mk,Nat.zero_add];exact((jF [] w).alloc _).held (HC.o i x hx) (by simp)
    case c3=>unfold maxLen;omega
    case c4=>omega
    case c5=>simp
    intro g c8 w8 ho hg ha hlt;have HX:=hd (And.intro ho (And.intro hg ha));clear ho hg ha hlt)
   go_ret
   obtain⟨ho,hg,ha⟩:=HX.o;rw[Nat.zero_add,List.nil_append] at ho;refine⟨_,rfl,ho,((jF [] w).alloc _).grown hg (fun k hk=>.inr ?_)⟩
   cases hk;exact jD _
set_option maxRecDepth 100000 in
theorem Zv (P:Nat->Prop)(N:Nat)(A:Option Addr)(n cap:Nat)(l:List Ex)(w:World)(h:Ao P N w A 10 exC l)(hl:l.length=n)(h9:n<=1000000) :
  Calls prog 202 #[.slice A n cap] w (Ae4 41 10 n (l.flatMap exC) w):=by
 obtain⟨i0,a1,a8,aa,ab⟩:=Xg;have ac:∀W:World,(binOp .eql 39 (.slice A n cap) (.slice none 0 0)).run prog W=.ok (.bool A.isNone) W:=fun W=>Go.Lib.run_eql_slice_nil (P:=prog) (w:=W) (h:=underlying39) ..
 cases A with
 | none=>
  have hv:l=[]:=by
   rcases h.2 with h|⟨b,hb,-⟩
   ·exact h
   ·cases hb
  subst hv;simp at hl;subst hl;go_enter func202,ntmps202
  go_wp2_with fail
  go_ret
  exact⟨_,rfl,Cm _ _ _ _,jF _ _⟩
 | some a=>
  by_cases h0:n=0
  ·subst h0;have hv:l=[]:=List.length_eq_zero_iff.1 hl;subst hv
   have hr:∀ty,(Builtin.append_ #[39,39] ty #[.slice (some w.heap.size) 0 0,.slice (some a) 0 cap]).run prog (w.alloc (.cells #[] 41))=.ok (.slice (some w.heap.size) 0 0) (w.alloc (.cells #[] 41)):=fun ty=>
    run_append_room_cells (P:=prog) _ 39 ty 41 i0 underlying39 a1 w.heap.size 0 0 0 a 0 cap [] (by simp) (by simp) (by simp) (by omega) (by simp) (by simp)
   go_enter func202,ntmps202
   go_wp2_with (at_builtin;refine Lib.wpList_append_run _ rfl _ _ _ _ rfl _ _ rfl rfl _ _ (hr _) ?_)
   go_ret
   exact⟨_,rfl,World.ownsRow_made w #[] 0 (jD _) (by decide) (by simp),(jF [] w).alloc _⟩
  ·obtain⟨b,hb,ad⟩:∃b,a=⟨b,0,none⟩/\b<w.heap.size:=by
    rcases h.2 with hh|⟨b,hb,-,hw,-⟩
    ·rw[hh] at hl;simp at hl;omega
    ·cases hb;exact⟨b,rfl,hw⟩
   subst hb;have HC:=hd (Ig Hx (by decide) h);have HL:=hd hl;have a6:Hd ((l.flatMap exC).length=n*10):=hd (by rw[Ej Hx,hl]);generalize a2:l.flatMap exC=xs at *;have a7:Hd (∀u∈xs,u.oneCell'=true):=hd fun u hu=>by rw[<-a2] at hu;obtain⟨y,-,hy⟩:=List.mem_flatMap.1 hu;exact Xh y u hy
   clear h hl a2;go_enter func202,ntmps202
   go_wp2_with (
    refine wpList_append_lies _ rfl _ _ 39 rfl w.heap.size 41 i0 _ 10 112 underlying39 a1 a8 aa ab rfl (by decide) _ 0 [] rfl ?c0 ⟨b,0,none⟩ n cap xs rfl a6.o ?c1 a7.o (by omega) ?c3 ?c4 ?c5 _ rfl ?_
    case c0=>exact World.ownsRow_made w #[] 0 (jD _) (by decide) (by simp)
    case c1=>
     intro i x hx;rw[Addr.add_mk,Nat.zero_add];exact((jF [] w).alloc _).held (HC.o i x hx) (by simp)
    case c3=>unfold maxLen;omega
    case c4=>omega
    case c5=>simp
    intro g c8 w8 ho hg ha hlt;have HX:=hd (And.intro ho (And.intro hg ha));clear ho hg ha hlt)
   go_ret
   obtain⟨ho,hg,ha⟩:=HX.o;rw[Nat.zero_add,List.nil_append] at ho;refine⟨_,rfl,ho,((jF [] w).alloc _).grown hg (fun k hk=>.inr ?_)⟩
   cases hk;exact jD _
set_option maxRecDepth 100000 in
theorem Ah2 (P:Nat->Prop)(N:Nat)(A:Option Addr)(n cap:Nat)(l:List St)(w:World)(h:Ao P N w A 21 stC l)(hl:l.length=n)(h9:n<=1000000) :
  Calls prog 155 #[.slice A n cap] w (Ae4 43 21 n (l.flatMap stC) w):=by
 obtain⟨i0,a1,a8,aa,ab⟩:=Jb;have ac:∀W:World,(binOp .eql 27 (.slice A n cap) (.slice none 0 0)).run prog W=.ok (.bool A.isNone) W:=fun W=>Go.Lib.run_eql_slice_nil (P:=prog) (w:=W) (h:=underlying27) ..
 cases A with
 | none=>
  have hv:l=[]:=by
   rcases h.2 with h|⟨b,hb,-⟩
   ·exact h
   ·cases hb
  subst hv;simp at hl;subst hl;go_enter func155,ntmps155
  go_wp2_with fail
  go_ret
  exact⟨_,rfl,Cm _ _ _ _,jF _ _⟩
 | some a=>
  by_cases h0:n=0
  ·subst h0;have hv:l=[]:=List.length_eq_zero_iff.1 hl;subst hv
   have hr:∀ty,(Builtin.append_ #[27,27] ty #[.slice (some w.heap.size) 0 0,.slice (some a) 0 cap]).run prog (w.alloc (.cells #[] 43))=.ok (.slice (some w.heap.size) 0 0) (w.alloc (.cells #[] 43)):=fun ty=>
    run_append_room_cells (P:=prog) _ 27 ty 43 i0 underlying27 a1 w.heap.size 0 0 0 a 0 cap [] (by simp) (by simp) (by simp) (by omega) (by simp) (by simp)
   go_enter func155,ntmps155
   go_wp2_with (at_builtin;refine Lib.wpList_append_run _ rfl _ _ _ _ rfl _ _ rfl rfl _ _ (hr _) ?_)
   go_ret
   exact⟨_,rfl,World.ownsRow_made w #[] 0 (jD _) (by decide) (by simp),(jF [] w).alloc _⟩
  ·obtain⟨b,hb,ad⟩:∃b,a=⟨b,0,none⟩/\b<w.heap.size:=by
    rcases h.2 with hh|⟨b,hb,-,hw,-⟩
    ·rw[hh] at hl;simp at hl;omega
    ·cases hb;exact⟨b,rfl,hw⟩
   subst hb;have HC:=hd (Ig Cr (by decide) h);have HL:=hd hl;have a6:Hd ((l.flatMap stC).length=n*21):=hd (by rw[Ej Cr,hl]);generalize a2:l.flatMap stC=xs at *;have a7:Hd (∀u∈xs,u.oneCell'=true):=hd fun u hu=>by rw[<-a2] at hu;obtain⟨y,-,hy⟩:=List.mem_flatMap.1 hu;exact La y u hy
   clear h hl a2;go_enter func155,ntmps155
   go_wp2_with (
    refine wpList_append_lies _ rfl _ _ 27 rfl w.heap.size 43 i0 _ 21 256 underlying27 a1 a8 aa ab rfl (by decide) _ 0 [] rfl ?c0 ⟨b,0,none⟩ n cap xs rfl a6.o ?c1 a7.o (by omega) ?c3 ?c4 ?c5 _ rfl ?_
    case c0=>exact World.ownsRow_made w #[] 0 (jD _) (by decide) (by simp)
    case c1=>
     intro i x hx;rw[Addr.add_mk,Nat.zero_add];exact((jF [] w).alloc _).held (HC.o i x hx) (by simp)
    case c3=>unfold maxLen;omega
    case c4=>omega
    case c5=>simp
    intro g c8 w8 ho hg ha hlt;have HX:=hd (And.intro ho (And.intro hg ha));clear ho hg ha hlt)
   go_ret
   obtain⟨ho,hg,ha⟩:=HX.o;rw[Nat.zero_add,List.nil_append] at ho;refine⟨_,rfl,ho,((jF [] w).alloc _).grown hg (fun k hk=>.inr ?_)⟩
   cases hk;exact jD _
set_option maxRecDepth 100000 in
theorem Ah3 (P:Nat->Prop)(N:Nat)(A:Option Addr)(n cap:Nat)(l:List Af)(w:World)(h:Ao P N w A 2 afC l)(hl:l.length=n)(h9:n<=1000000) :
  Calls prog 156 #[.slice A n cap] w (Ae4 38 2 n (l.flatMap afC) w):=by
 obtain⟨i0,a1,a8,aa,ab⟩:=Xj;have ac:∀W:World,(binOp .eql 35 (.slice A n cap) (.slice none 0 0)).run prog W=.ok (.bool A.isNone) W:=fun W=>Go.Lib.run_eql_slice_nil (P:=prog) (w:=W) (h:=underlying35) ..
 cases A with
 | none=>
  have hv:l=[]:=by
   rcases h.2 with h|⟨b,hb,-⟩
   ·exact h
   ·cases hb
  subst hv;simp at hl;subst hl;go_enter func156,ntmps156
  go_wp2_with fail
  go_ret
  exact⟨_,rfl,Cm _ _ _ _,jF _ _⟩
 | some a=>
  by_cases h0:n=0
  ·subst h0;have hv:l=[]:=List.length_eq_zero_iff.1 hl;subst hv
   have hr:∀ty,(Builtin.append_ #[35,35] ty #[.slice (some w.heap.size) 0 0,.slice (some a) 0 cap]).run prog (w.alloc (.cells #[] 38))=.ok (.slice (some w.heap.size) 0 0) (w.alloc (.cells #[] 38)):=fun ty=>
    run_append_room_cells (P:=prog) _ 35 ty 38 i0 underlying35 a1 w.heap.size 0 0 0 a 0 cap [] (by simp) (by simp) (by simp) (by omega) (by simp) (by simp)
   go_enter func156,ntmps156
   go_wp2_with (at_builtin;refine Lib.wpList_append_run _ rfl _ _ _ _ rfl _ _ rfl rfl _ _ (hr _) ?_)
   go_ret
   exact⟨_,rfl,World.ownsRow_made w #[] 0 (jD _) (by decide) (by simp),(jF [] w).alloc _⟩
  ·obtain⟨b,hb,ad⟩:∃b,a=⟨b,0,none⟩/\b<w.heap.size:=by
    rcases h.2 with hh|⟨b,hb,-,hw,-⟩
    ·rw[hh] at hl;simp at hl;omega
    ·cases hb;exact⟨b,rfl,hw⟩
   subst hb;have HC:=hd (Ig Oq (by decide) h);have HL:=hd hl;have a6:Hd ((l.flatMap afC).length=n*2):=hd (by rw[Ej Oq,hl]);generalize a2:l.flatMap afC=xs at *;have a7:Hd (∀u∈xs,u.oneCell'=true):=hd fun u hu=>by rw[<-a2] at hu;obtain⟨y,-,hy⟩:=List.mem_flatMap.1 hu;exact Xk y u hy
   clear h hl a2;go_enter func156,ntmps156
   go_wp2_with (
    refine wpList_append_lies _ rfl _ _ 35 rfl w.heap.size 38 i0 _ 2 32 underlying35 a1 a8 aa ab rfl (by decide) _ 0 [] rfl ?c0 ⟨b,0,none⟩ n cap xs rfl a6.o ?c1 a7.o (by omega) ?c3 ?c4 ?c5 _ rfl ?_
    case c0=>exact World.ownsRow_made w #[] 0 (jD _) (by decide) (by simp)
    case c1=>
     intro i x hx;rw[Addr.add_mk,Nat.zero_add];exact((jF [] w).alloc _).held (HC.o i x hx) (by simp)
    case c3=>unfold maxLen;omega
    case c4=>omega
    case c5=>simp
    intro g c8 w8 ho hg ha hlt;have HX:=hd (And.intro ho (And.intro hg ha));clear ho hg ha hlt)
   go_ret
   obtain⟨ho,hg,ha⟩:=HX.o;rw[Nat.zero_add,List.nil_append] at ho;refine⟨_,rfl,ho,((jF [] w).alloc _).grown hg (fun k hk=>.inr ?_)⟩
   cases hk;exact jD _
set_option maxRecDepth 100000 in
theorem Ah4 (P:Nat->Prop)(N:Nat)(A:Option Addr)(n cap:Nat)(l:List Bf)(w:World)(h:Ao P N w A 4 bfC l)(hl:l.length=n)(h9:n<=1000000) :
  Calls prog 105 #[.slice A n cap] w (Ae4 45 4 n (l.flatMap bfC) w):=by
 obtain⟨i0,a1,a8,aa,ab⟩:=To;have ac:∀W:World,(binOp .eql 26 (.slice A n cap) (.slice none 0 0)).run prog W=.ok (.bool A.isNone) W:=fun W=>Go.Lib.run_eql_slice_nil (P:=prog) (w:=W) (h:=underlying26) ..
 cases A with
 | none=>
  have hv:l=[]:=by
   rcases h.2 with h|⟨b,hb,-⟩
   ·exact h
   ·cases hb
  subst hv;simp at hl;subst hl;go_enter func105,ntmps105
  go_wp2_with fail
  go_ret
  exact⟨_,rfl,Cm _ _ _ _,jF _ _⟩
 | some a=>
  by_cases h0:n=0
  ·subst h0;have hv:l=[]:=List.length_eq_zero_iff.1 hl;subst hv
   have hr:∀ty,(Builtin.append_ #[26,26] ty #[.slice (some w.heap.size) 0 0,.slice (some a) 0 cap]).run prog (w.alloc (.cells #[] 45))=.ok (.slice (some w.heap.size) 0 0) (w.alloc (.cells #[] 45)):=fun ty=>
    run_append_room_cells (P:=prog) _ 26 ty 45 i0 underlying26 a1 w.heap.size 0 0 0 a 0 cap [] (by simp) (by simp) (by simp) (by omega) (by simp) (by simp)
   go_enter func105,ntmps105
   go_wp2_with (at_builtin;refine Lib.wpList_append_run _ rfl _ _ _ _ rfl _ _ rfl rfl _ _ (hr _) ?_)
   go_ret
   exact⟨_,rfl,World.ownsRow_made w #[] 0 (jD _) (by decide) (by simp),(jF [] w).alloc _⟩
  ·obtain⟨b,hb,ad⟩:∃b,a=⟨b,0,none⟩/\b<w.heap.size:=by
    rcases h.2 with hh|⟨b,hb,-,hw,-⟩
    ·rw[hh] at hl;simp at hl;omega
    ·cases hb;exact⟨b,rfl,hw⟩
   subst hb;have HC:=hd (Ig Oo (by decide) h);have HL:=hd hl;have a6:Hd ((l.flatMap bfC).length=n*4):=hd (by rw[Ej Oo,hl]);generalize a2:l.flatMap bfC=xs at *;have a7:Hd (∀u∈xs,u.oneCell'=true):=hd fun u hu=>by rw[<-a2] at hu;obtain⟨y,-,hy⟩:=List.mem_flatMap.1 hu;exact Rd y u hy
   clear h hl a2;go_enter func105,ntmps105
   go_wp2_with (
    refine wpList_append_lies _ rfl _ _ 26 rfl w.heap.size 45 i0 _ 4 56 underlying26 a1 a8 aa ab rfl (by decide) _ 0 [] rfl ?c0 ⟨b,0,none⟩ n cap xs rfl a6.o ?c1 a7.o (by omega) ?c3 ?c4 ?c5 _ rfl ?_
    case c0=>exact World.ownsRow_made w #[] 0 (jD _) (by decide) (by simp)
    case c1=>
     intro i x hx;rw[Addr.add_mk,Nat.zero_add];exact((jF [] w).alloc _).held (HC.o i x hx) (by simp)
    case c3=>unfold maxLen;omega
    case c4=>omega
    case c5=>simp
    intro g c8 w8 ho hg ha hlt;have HX:=hd (And.intro ho (And.intro hg ha));clear ho hg ha hlt)
   go_ret
   obtain⟨ho,hg,ha⟩:=HX.o;rw[Nat.zero_add,List.nil_append] at ho;refine⟨_,rfl,ho,((jF [] w).alloc _).grown hg (fun k hk=>.inr ?_)⟩
   cases hk;exact jD _
set_option maxRecDepth 100000 in
theorem Ah5 (P:Nat->Prop)(N:Nat)(A:Option Addr)(n cap:Nat)(l:List Int)(w:World)(h:Ao P N w A 1 inC l)(hl:l.length=n)(h9:n<=1000000) :
  Calls prog 41 #[.slice A n cap] w (Ae4 3 1 n (l.flatMap inC) w):=by
 obtain⟨i0,a1,a8,aa,ab⟩:=Ht;have ac:∀W:World,(binOp .eql 22 (.slice A n cap) (.slice none 0 0)).run prog W=.ok (.bool A.isNone) W:=fun W=>Go.Lib.run_eql_slice_nil (P:=prog) (w:=W) (h:=underlying22) ..
 cases A with
 | none=>
  have hv:l=[]:=by
   rcases h.2 with h|⟨b,hb,-⟩
   ·exact h
   ·cases hb
  subst hv;simp at hl;subst hl;go_enter func41,ntmps41
  go_wp2_with fail
  go_ret
  exact⟨_,rfl,Cm _ _ _ _,jF _ _⟩
 | some a=>
  by_cases h0:n=0
  ·subst h0;have hv:l=[]:=List.length_eq_zero_iff.1 hl;subst hv
   have hr:∀ty,(Builtin.append_ #[22,22] ty #[.slice (some w.heap.size) 0 0,.slice (some a) 0 cap]).run prog (w.alloc (.cells #[] 3))=.ok (.slice (some w.heap.size) 0 0) (w.alloc (.cells #[] 3)):=fun ty=>
    run_append_room_cells (P:=prog) _ 22 ty 3 i0 underlying22 a1 w.heap.size 0 0 0 a 0 cap [] (by simp) (by simp) (by simp) (by omega) (by simp) (by simp)
   go_enter func41,ntmps41
   go_wp2_with (at_builtin;refine Lib.wpList_append_run _ rfl _ _ _ _ rfl _ _ rfl rfl _ _ (hr _) ?_)
   go_ret
   exact⟨_,rfl,World.ownsRow_made w #[] 0 (jD _) (by decide) (by simp),(jF [] w).alloc _⟩
  ·obtain⟨b,hb,ad⟩:∃b,a=⟨b,0,none⟩/\b<w.heap.size:=by
    rcases h.2 with hh|⟨b,hb,-,hw,-⟩
    ·rw[hh] at hl;simp at hl;omega
    ·cases hb;exact⟨b,rfl,hw⟩
   subst hb;have HC:=hd (Ig Os (by decide) h);have HL:=hd hl;have a6:Hd ((l.flatMap inC).length=n*1):=hd (by rw[Ej Os,hl]);generalize a2:l.flatMap inC=xs at *;have a7:Hd (∀u∈xs,u.oneCell'=true):=hd fun u hu=>by rw[<-a2] at hu;obtain⟨y,-,hy⟩:=List.mem_flatMap.1 hu;exact Adf y u hy
   clear h hl a2;go_enter func41,ntmps41
   go_wp2_with (
    refine wpList_append_lies _ rfl _ _ 22 rfl w.heap.size 3 i0 _ 1 8 underlying22 a1 a8 aa ab rfl (by decide) _ 0 [] rfl ?c0 ⟨b,0,none⟩ n cap xs rfl a6.o ?c1 a7.o (by omega) ?c3 ?c4 ?c5 _ rfl ?_
    case c0=>exact World.ownsRow_made w #[] 0 (jD _) (by decide) (by simp)
    case c1=>
     intro i x hx;rw[Addr.add_mk,Nat.zero_add];exact((jF [] w).alloc _).held (HC.o i x hx) (by simp)
    case c3=>unfold maxLen;omega
    case c4=>omega
    case c5=>simp
    intro g c8 w8 ho hg ha hlt;have HX:=hd (And.intro ho (And.intro hg ha));clear ho hg ha hlt)
   go_ret
   obtain⟨ho,hg,ha⟩:=HX.o;rw[Nat.zero_add,List.nil_append] at ho;refine⟨_,rfl,ho,((jF [] w).alloc _).grown hg (fun k hk=>.inr ?_)⟩
   cases hk;exact jD _
set_option maxRecDepth 100000 in
theorem Xm (A:Option Addr)(c:Nat)(w:World):Calls prog 201 #[.slice A 0 c] w fun e w'=>e=.returned (.tuple #[])/\w'=w:=by
 go_enter func201,ntmps201
 go_wp2_with fail
 go_loopw [2,3] (fun i j wr=>i=.int .i64 0/\j=.int .i64 (-1)/\wr=w) (fun _ _ _=>0)
 case atStart=>exact⟨rfl,rfl,rfl⟩
 case round=>
  obtain⟨rfl,rfl,rfl⟩:=hrel;go_wp2_with fail
  exact bodyPost_end (results_none rfl _ _ _) rfl ⟨rfl,rfl⟩
set_option maxRecDepth 100000 in
theorem Zw (n c b:Nat)(ts:List (ByteArray×Int))(w:World)(hl:ts.length=n)(h1:1<=n)(hn:n<=1000000)(h:TmR w b ts) :
  Calls prog 201 #[.slice (some b) n c] w fun e w'=>e=.returned (.tuple #[])/\∃ts',ts'.length=n/\TmR w' b ts'/\Ext [b] w w':=by
 have HT:=hd h;have HL:=hd hl;clear h hl;go_enter func201,ntmps201
 go_wp2_with fail
 go_loopw [2,3] (fun i j wr=>∃(k m:Int) (ts':List (ByteArray×Int)),i=.int .i64 k/\j=.int .i64 m/\0<=k/\k+m=n-1/\k<=n/\Hd (ts'.length=n)/\Hd (TmR wr b ts')/\Hd (Ext [b] w wr)) (fun i j _=>(intOf j-intOf i+1).toNat)
 case atStart=>exact⟨0,_,ts,rfl,rfl,by omega,by go_num,by omega,HL,HT,hd (jF _ _)⟩
 case round=>
  obtain⟨k,m,a8,rfl,rfl,ax,ao,ay,a6,a2,ae⟩:=hrel;by_cases ap:k<m
  ·obtain⟨m',rfl⟩:∃q:Nat,m=q:=⟨m.toNat,by omega⟩;obtain⟨k',rfl⟩:∃q:Nat,k=q:=⟨k.toNat,by omega⟩;have aq:(m':Int)<n:=by omega
   have ah:(k':Int)<n:=by omega
   have ai:=hd ao;have aj:=hd ap;go_upto_region 3 with fail
   obtain⟨s1,k1,af,-,-⟩:=a2.o.at (i:=m') (by rw[a6.o];omega);obtain⟨s0,k0,ag,-,-⟩:=a2.o.at (i:=k') (by rw[a6.o];omega);have ak:=hd af;have al:=hd ag;clear af ag;refine rgA 14 13 [b] [(13,⟨Unit,(),fun _=>undef,fun _ w=>TmR w b (a8.set k' (s1,k1))⟩)] rfl (by simp[Bi]) (fun oi h=>by cases h;rfl) ?_ ?_
   ·exact Vt fun j hj u w w' hR h=>h.ext (hR.pre hj) (by simp)
   simp only[TK];have a7:=hd (fun W (hW:Ext [] wr W)=>And.intro (a2.o.ext hW (by simp)).lt (And.intro (Vu ak.o (a2.o.ext hW (by simp))) (Vu al.o (a2.o.ext hW (by simp)))))
   repeat(refine dEU (fun wr nr hg hJ=>by(clear hg);clear hJ;exact CL) ?_;simp only[PT])
   refine dEU (fun wr nr hg hJ=>by(have hA:=hJ.pre (hg.later 13 (by kernel_rfl));have hc:=a7.o wr hA;have ad:=hc.1;have aa:=hc.2.1;have ab:=hc.2.2;clear hc hA;obtain⟨c1,c2⟩:=aa;obtain⟨c3,c4⟩:=ab);clear hJ;exact CL) ?_
   simp only[PT]
   repeat(refine dEU (fun wr nr hg hJ=>by(clear hg);clear hJ;exact CL) ?_;simp only[PT])
   refine dEU (fun wr nr hg hJ=>by(have hA:=hJ.pre (hg.later 13 (by kernel_rfl));have hc:=a7.o wr hA;have ad:=hc.1;have aa:=hc.2.1;have ab:=hc.2.2;clear hc hA;obtain⟨c1,c2⟩:=aa;obtain⟨c3,c4⟩:=ab);clear hJ;exact CL) ?_
   simp only[PT]
   repeat(refine dEU (fun wr nr hg hJ=>by(clear hg);clear hJ;exact CL) ?_;simp only[PT])
   refine Dq _ rfl rfl (fun _=>rfl) (fun w12 r12 hg hJ hf=>?_) ?_
   ·have hA:=hJ.pre hg.mine;have hT:=a2.o.ext hA (by simp);have HS:=hd (hT.set (j:=k') (by rw[a6.o];omega) (s1,k1));have hE:Ext [b] w12 ((w12.setCell ⟨b,k'*2,none⟩ (.string s1)).setCell ⟨b,k'*2+1,none⟩ k1):=jL (.inl (by simp)) (jL (.inl (by simp)) (jF _ _));refine⟨(),(w12.setCell ⟨b,k'*2,none⟩ (.string s1)).setCell ⟨b,k'*2+1,none⟩ k1,?_,HS.o,hJ.app hE,by unfold RA1;rw[ijp rfl];exact hE⟩
    have hc:=a7.o w12 hA;have ad:=hc.1;obtain⟨c1,c2⟩:=hc.2.2;have au:=hT.fz (k'*2);have aw:=hT.fz (k'*2+1);clear hc hA hT hE hJ hf hg;go_simp
   rintro⟨⟩;simp only[PT];refine Ci (fun w13 r13 hr hJ hF=>?_)
   have hT:TmR w13 b (a8.set k' (s1,k1)):=hF 13;have ac:=hd (ae.o.trans hJ.all);have a1:m'<(a8.set k' (s1,k1)).length:=by rw[List.length_set,a6.o];omega
   have am:=hd (hT.set (j:=m') a1 (s0,k0));have an:=hd (ac.o.trans (jL (b:=b) (i:=m'*2+1) (u:=.int .i64 k0) (.inl (by simp)) (jL (b:=b) (i:=m'*2) (u:=.string s0) (.inl (by simp)) (jF [b] w13))));obtain⟨s9,k9,-,c5,c6⟩:=hT.at a1;have c7:=hT.fz (m'*2);have c8:=hT.fz (m'*2+1);have c9:=hT.lt;clear hJ hF hr hT a1 a7;go_wp2_with fail
   go_roundw
   case rel=>exact⟨(k':Int)+1,(m':Int)-1,_,by go_num,by go_num,by omega,by have:=ai.o;omega,by omega,hd (by rw[List.length_set,List.length_set];exact a6.o),am,an⟩
   case measure=>simp[intOf];have:=aj.o;omega
  ·go_wp2_with fail
   exact bodyPost_end (results_none rfl _ _ _) rfl ⟨rfl,a8,a6.o,a2.o,ae.o⟩
end Go.Proofs.YtfppibmloloakaaGreatDoor
