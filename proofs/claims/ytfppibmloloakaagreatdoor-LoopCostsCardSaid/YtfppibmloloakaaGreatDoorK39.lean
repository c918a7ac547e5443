import Derived.Test.YtfppibmloloakaaGreatDoorK38
namespace Go.Proofs.YtfppibmloloakaaGreatDoor
open Go.RowKit Go.Proofs.Tryz
set_option linter.all false
set_option maxHeartbeats 64000000
section
attribute [local irreducible] Bj
theorem ExA.past {w w':World}{H K N rb:Nat}{x:Ex}(h:ExA (fun b=>K<=b) N w x)(hE:Ext [rb] w w')(hr:rb<K)(hH:H<=K):ExA (fun b=>H<=b) N w' x:=
 ExA.mono (fun b _ hb=>by omega) (jD _) (ExA.ext hE (fun y hy=>by rw[jA.1 hy];omega) h)
theorem Mi {w w4 w5:World}{base g n K rb N:Nat}{x:Ex}(hx:ExA (fun b=>K<=b) 10 w4 x)(hp:Al x<=N)(hE4:Ext [g] w w4)(hS4:Stm w4 base g n)(hE5:Ext [rb] w4 w5)(hrb:w.heap.size<=rb)(hrK:rb<K)(hg:g<w.heap.size)(hb:base<=w.heap.size) :
  ExP base g n N w (.returned (exV x)) w5:=
 ⟨x,rfl,hx.past hE5 hrK (by omega),hp,hE4.step hE5 fun y hy=>.inr (by rw[jA.1 hy];exact hrb),hS4.ext hE5 (by rw[jA];omega) (fun y hy=>by rw[jA.1 hy];omega)⟩
theorem Bld.bufC {w:World}{base g pb n bc:Nat}{bA:Option Addr}{bs:List Bf}{V:Value}{l:List St}{cnt:Int}(h:Bld w base g pb n bA bc bs V l cnt){buf:Nat}(hb:buf<bs.length) :
  ∃q sz,bA=some ⟨q,0,none⟩/\1<=sz/\sz<=1000/\∀W,Ext [g] w W->W.cell? ⟨q,buf*4+1,none⟩=some (.int .i64 sz)/\q<W.heap.size:=by
 obtain⟨q,bf,rfl,hq,hx,hc⟩:=h.bufAt hb;obtain⟨C,hC⟩:=h.stm.blk;have hz:=h.bsz bf (ilm hx);refine⟨q,bf.size,rfl,hz.1,hz.2,fun W hW=>⟨hW.held (hc 1 _ rfl) ?_,nl hq hW.size⟩⟩
 rw[jA];exact Bx h.buf hC (by decide) q rfl
def sIn (lo hi:Int):Ba:=⟨Int,lo,Value.int .i64,fun r _=>lo<=r/\r<=hi⟩
theorem sIn.stays {lo hi:Int}{R:World->World->Prop}:∀y w w',R w w'->(sIn lo hi).V y w->(sIn lo hi).V y w':=fun _ _ _ _ h=>h
theorem Hf {P:Program}{o:Oper}{a:Act}{w:World}(t:TypeId)(Al:Array (Nat×Operand))(ho:o.op=.build t Al)(cells:Array Value)(hc:P.built t (Al.map fun(i,x)=>(i,a.eval x)).toList=some cells):(execOp a.eval o).run P w=.ok (.value (.agg cells)) w:=by
 unfold execOp;simp only[ho,Sem.run_bind,run_build w t _ cells hc,Result.andThen_ok];rfl
theorem Xg:∃i,prog.info? 41=some i/\i.zero=some (.agg zEx)/\i.size=10/\i.bytes=112:=info_parts (show((prog).info? 41).map (fun i=>(i.zero,i.size,i.bytes))=some (some (.agg zEx),10,112) by kernel_rfl)
theorem Mw (w:World)(x:Ex):(Instr.buildSlice 39 1 #[(0,exV x)]).run prog w=.ok (.slice (some w.heap.size) 1 1) (w.alloc (.cells (An x) 41)):=by
 rw[Cq];obtain⟨i0,a2,a6,a1,a7⟩:=Xg;refine run_buildSlice w _ _ 1 _ _ i0 _ underlying39 a2 a6 (by rw[a1];decide) (by rw[a1];decide) ?_
 rw[a1];have hz:((Array.range (1*10)).map (fun x=>(Value.agg zEx).cells[x % (Value.agg zEx).cells.size]!))=zEx:=by kernel_rfl
 rw[hz];simp[Instr.fill,An,zEx,Value.cells]
theorem Aht {w:World}{P:Nat->Prop}{N kb:Nat}{x:Ex}(hB:Blk w kb 41 (An x))(hP:P kb)(hN:1<=N):Ao P N w (some kb) 10 exC [x]:=by
 refine⟨hN,.inr ⟨kb,rfl,hP,hB.lt,fun i y hy j v hv=>?_⟩⟩
 cases i with
 | zero=>
  cases hy
  rw[Nat.zero_mul,Nat.zero_add,hB.cell,<-Array.getElem?_toList,<-Ey];exact hv
 | succ i=>simp at hy
structure OpS (w:World)(H base g pb n:Nat)(bA:Option Addr)(bc:Nat)(bs:List Bf)(V:Value)(l:List St)(cnt:Int)(rb eb:Nat)(op lo hi k:Int)(v:Value)(ks:List Ex)(N:Nat)(wx:World):Prop where
 ext:Ext [g] w wx
 bld:Bld wx base g pb n bA bc bs V l cnt
 res:Blk wx rb 41 zEx
 blk:Blk wx eb 41 #[(5:Int),op,lo,hi,k,(0:Int),(0:Int),(0:Int),.slice none 0 0,v]
 own:wx.ownsRow H 41 10 v ks.length (ks.flatMap exC)
 kid:∀x∈ks,ExA (fun b=>H<=b/\v.ownBlock≠some b) 10 wx x/\Al x<=N
 rb0:w.heap.size<=rb
 eb0:rb<eb
 ebH:eb<H
 g0:g<w.heap.size
 hH:H<=wx.heap.size
section
variable {w wx wy:World} {H base g pb n m bc:Nat} {bA:Option Addr} {bs:List Bf} {V:Value} {l:List St} {cnt:Int} {rb eb N:Nat} {op lo hi k:Int} {v:Value} {ks:List Ex}
theorem OpS.draw (h:OpS w H base g pb n bA bc bs V l cnt rb eb op lo hi k v ks N wx)(hE:Ext [g] wx wy)(hS:Stm wy base g m):OpS w H base g pb m bA bc bs V l cnt rb eb op lo hi k v ks N wy:=by
 have h0:=h.g0;have h1:=h.rb0;have h2:=h.eb0;have h3:=h.ebH
 exact⟨h.ext.trans hE,h.bld.draw hE hS,h.res.ext hE (by rw[jA];omega),h.blk.ext hE (by rw[jA];omega),
  Ah h.own hE fun q hq=>by have:=Ad h.own q hq;rw[jA];omega,fun x hx=>⟨ExA.ext hE (fun y hy hh=>by rw[jA.1 hy] at hh;have:=hh.1;omega) (h.kid x hx).1,(h.kid x hx).2⟩,h.rb0,h.eb0,h.ebH,h.g0,nt h.hH hE.size⟩
theorem OpS.less (h:OpS w H base g pb n bA bc bs V l cnt rb eb op lo hi k v ks N wx)(hm:m<=n):OpS w H base g pb m bA bc bs V l cnt rb eb op lo hi k v ks N wx:=⟨h.ext,h.bld.less hm,h.res,h.blk,h.own,h.kid,h.rb0,h.eb0,h.ebH,h.g0,h.hH⟩
theorem OpS.set (h:OpS w H base g pb n bA bc bs V l cnt rb eb op lo hi k v ks N wx)(h0:Bld w base g pb m bA bc bs V l cnt)(i:Nat)(u:Value){lo' hi' k':Int}
  (hu:(#[Value.int .i64 5,op,lo,hi,k,(0:Int),(0:Int),(0:Int),.slice none 0 0,v]:Array Value).setIfInBounds i u=#[.int .i64 5,.int .i64 op,.int .i64 lo',.int .i64 hi',.int .i64 k',.int .i64 0,.int .i64 0,.int .i64 0,.slice none 0 0,v]):OpS w H base g pb n bA bc bs V l cnt rb eb op lo' hi' k' v ks N (wx.setCell ⟨eb,i,none⟩ u):=by
 have hE:Ext [eb] wx (wx.setCell ⟨eb,i,none⟩ u):=jL (.inl (by simp)) (jF _ _);have g0:=h.g0;have h1:=h.rb0;have h2:=h.eb0;have h3:=h.ebH;have hB:Blk (wx.setCell ⟨eb,i,none⟩ u) eb 41 _:=h.blk.set_ i u;rw[hu] at hB
 exact⟨h.ext.step hE fun y hy=>.inr (by rw[jA.1 hy];omega),h.bld.far hE h0 (fun y hy=>by rw[jA.1 hy];omega),h.res.ext hE (by rw[jA];omega),hB,
  Ah h.own hE fun q hq=>by have:=Ad h.own q hq;rw[jA];omega,fun x hx=>⟨ExA.ext hE (fun y hy hh=>by rw[jA.1 hy] at hh;have:=hh.1;omega) (h.kid x hx).1,(h.kid x hx).2⟩,h.rb0,h.eb0,h.ebH,h.g0,nt h.hH hE.size⟩
theorem OpS.more (h:OpS w H base g pb n bA bc bs V l cnt rb eb op lo hi k v ks N wx)(h0:Bld w base g pb m bA bc bs V l cnt)(hE:Ext v.ownBlock.toList wx wy){g8 c8:Nat}{y:Ex}
  (hO:wy.ownsRow H 41 10 (.slice (some g8) (ks.length+1) c8) (ks.length+1) (ks.flatMap exC ++ exC y)) (hg8:v.ownBlock=some g8\/wx.heap.size<=g8) (hy:ExA (fun b=>H<=b/\v.ownBlock≠some b) 10 wx y) (hp:Al y<=N) :
  OpS w H base g pb n bA bc bs V l cnt rb eb op lo hi k (.slice (some g8) (ks.length+1) c8) (ks ++ [y]) N (wy.setCell ⟨eb,9,none⟩ (.slice (some g8) (ks.length+1) c8)):=by
 have a1:Ext [eb] wy (wy.setCell ⟨eb,9,none⟩ (.slice (some g8) (ks.length+1) c8)):=jL (.inl (by simp)) (jF _ _);have g0:=h.g0;have h1:=h.rb0;have h2:=h.eb0;have h3:=h.ebH;have hq:∀q∈v.ownBlock.toList,H<=q:=fun q hq=>Ad h.own q (jC.1 hq)
 have a2:H<=g8:=Ad hO g8 rfl;have hb:Blk wy eb 41 _:=h.blk.ext hE fun hm=>by have:=hq _ hm;omega
 have step:∀z,ExA (fun b=>H<=b/\v.ownBlock≠some b) 10 wx z->ExA (fun b=>H<=b/\(Value.slice (some g8) (ks.length+1) c8).ownBlock≠some b) 10 (wy.setCell ⟨eb,9,none⟩ (.slice (some g8) (ks.length+1) c8)) z:=fun z hz=>by
  have z1:=ExA.mono (Q:=fun b=>H<=b/\b≠g8/\v.ownBlock≠some b) (fun b hb hh=>⟨hh.1,(by rintro rfl;rcases hg8 with e|e;exact hh.2 e;omega),hh.2⟩) (jD _) hz;have z2:=ExA.ext hE (fun y hy hh=>hh.2.2 (jC.1 hy)) z1;have z3:=ExA.ext a1 (fun y hy hh=>by rw[jA.1 hy] at hh;have:=hh.1;omega) z2;exact ExA.mono (fun b _ hh=>⟨hh.1,fun e=>by cases e;exact hh.2.1 rfl⟩) (jD _) z3
 refine⟨(h.ext.step hE fun q hqq=>.inr (by have:=hq q hqq;omega)).step a1 fun y hy=>.inr (by rw[jA.1 hy];omega),(h.bld.far hE h0 (fun q hqq=>by have:=hq q hqq;omega)).far a1 h0 (fun y hy=>by rw[jA.1 hy];omega),
  (h.res.ext hE (fun hm=>by have:=hq _ hm;omega)).ext a1 (by rw[jA];omega),hb.set_' 9 _ _ rfl,?_,fun x hx=>?_,h.rb0,h.eb0,h.ebH,h.g0,nt h.hH (nt hE.size a1.size)⟩
 ·rw[jG,List.flatMap_append];have e:List.flatMap exC [y]=exC y:=by simp
  rw[e];exact Ah hO a1 fun q hqq=>by have:=Ad hO q hqq;rw[jA];omega
 ·rcases jN.1 hx with hx|hx
  ·exact⟨step x (h.kid x hx).1,(h.kid x hx).2⟩
  ·rw[jA.1 hx];exact⟨step y hy,hp⟩
end
theorem Hx (x:Ex):(exC x).length=10:=by cases x;rfl
theorem Xh (x:Ex):∀u∈exC x,u.oneCell'=true:=fun u hu=>by
 have h:=Fu x;rw[Ey] at hu;rw[Array.all_eq_true_iff_forall_mem] at h;exact h u (Array.mem_toList_iff.1 hu)
theorem Tj {N:Nat}:∀{ks:List Ex},(∀x∈ks,Al x<=N)->Ap ks<=ks.length*N
 | [],_=>by simp[Ap]
 | x :: r,h=>by
  have h1:=h x (jO ..);have h2:=Tj fun y hy=>h y (jI _ hy)
  rw[Ap,List.length_cons,Nat.succ_mul];omega
def KD (d:Nat):Nat:=1000*100 ^ d
theorem Ajn (d:Nat):KD (d+1)=100*KD d:=by unfold KD;rw[Nat.pow_succ];omega
theorem Ab1 (d:Nat):1000<=KD d:=by unfold KD;have:=Nat.one_le_pow d 100 (by omega);omega
def Akr (d:Nat):Prop:=∀(base g pb n bc:Nat) (bA:Option Addr) (bs:List Bf) (V:Value) (l:List St) (cnt:Int) (w:World),Bld w base g pb (n+KD d) bA bc bs V l cnt->Calls prog 197 #[.pointer (some pb),d] w (ExP base g n (4 ^ d) w)
set_option maxRecDepth 100000 in
theorem Tl (d:Nat)(hd3:d<=1000)(IH:∀e,e+1=d->Akr e):Akr d:=by
 intro base g pb n bc bA bs V l cnt w h;have HD:=hd h;have be:=hd IH;have af:=hd (Ab1 d);have aZ:=hd (And.intro h.bne h.b9);have bR:=hd h.bsz;have au:Hd (base<=w.heap.size):=hd (by have:=h.bpb;have:=h.blk.lt;omega);clear h IH;go_enter func197,ntmps197
 go_upto_region 1 with fail
 have aR:=hd ((jF [g] w).alloc (.cells zEx 41));have aG:=hd (jK w 41 zEx);have aw:=hd (HD.o.grow ((jF [] w).alloc (.cells zEx 41)));unfold zEx at aR aG aw;generalize World.alloc w _=w1 at *;change Hd (Blk w1 w.heap.size 41 zEx) at aG;generalize aY:w.heap.size=rb at *;have a2:=hd aY;have a7:Hd (g<rb):=hd (by rw[<-aY];exact HD.o.stm.lt);clear aY;refine rgC 11 1 base g (n+KD d-20) [(10,Fs bs.length)] (Am.cons Fs.stays Am.nil) (aw.o.stm.less (by have:=af.o;omega)) ?_
 simp only[TK]
 repeat(refine dE (fun wr nr hJ=>by(have hB:=aw.o.draw hJ.1 hJ.2;have qp:=hB.blk.cell;have a8:=hB.blk.lt;unfold Db at qp;clear hB);clear hJ;exact CL) ?_;simp only[PT])
 refine Bz (Fs bs.length) rfl rfl ?_ ?_
 ·refine EC fun wr m hE hS hm hf=>?_
  refine(Cb base g m (bs.length:Int) wr hS (by have:=aZ.o.2;omega)).mono ?_
  rintro e w' ⟨r,rfl,hr,aa,ab⟩;exact⟨r,rfl,⟨hr.1,hr.2 (by have:=aZ.o.1;omega)⟩,aa,ab⟩
 intro (buf0:Int);simp only[PT];refine Aj (fun w2 hJ hF=>?_)
 have bf:0<=buf0/\buf0<bs.length:=hF 10;obtain⟨buf,rfl⟩:∃b:Nat,buf0=b:=⟨buf0.toNat,by omega⟩;have aS:Hd (buf<bs.length):=hd (by omega);have ax:=hd (aw.o.draw hJ.1 hJ.2);have b0:=hd (aR.o.trans hJ.1);have b1:=hd (aG.o.ext hJ.1 (by rw[jA];have:=a7.o;omega));clear hJ hF bf aw aR aG;dsimp only[Fs];have qp:=ax.o.blk.cell;have a8:=ax.o.blk.lt;unfold Db at qp;go_upto_region 3 with(go_at_call 9;refine(Cb base g (n+KD d-21) 8 w2 (ax.o.stm.less (by have:=af.o;omega)) (by omega)).mono ?_;rintro e w3 ⟨k,rfl,hk,hE,hS⟩)
 have ac:=hd (ax.o.draw hE hS);have ay:=hd (b0.o.trans hE);have ao:=hd (b1.o.ext hE (by rw[jA];have:=a7.o;omega));clear hE hS ax b0 b1 qp a8 hk;go_cut [25] (fun s wx=>s=.bool (decide (k<2\/d=0))/\wx=w3)
 case first=>
  go_wp2_with fail
  all_goals
   go_meet
   refine⟨congrArg Value.bool ?_,rfl⟩
   first|exact decide_eq_decide.2 (by omega)|exact(decide_eq_true (by omega)).symm|(rw[Bool.eq_iff_iff];simp only[Bool.or_eq_true,decide_eq_true_eq,beq_iff_eq];omega)|(simp_all;done)|(simp_all;omega)
 case rest=>
  obtain⟨rfl,rfl⟩:=hcut;have aT:=ao.o.lt;by_cases hq:k<2\/d=0
  ·skip
   rw[decide_eq_true hq];go_wp2_with fail
   refine(Qf base g pb n bc buf bA bs V l cnt _ (ac.o.less (by have:=af.o;omega)) aS.o).mono ?_
   rintro e w4 ⟨a,rfl,ha,hE,hS⟩;have aU:=hd ha;have ag:=hd (ay.o.trans hE);have az:=hd hS;have ae:=hd (ao.o.ext hE (by rw[jA];have:=a7.o;omega));clear hE hS ha;unfold afV
   go_wp2_with (first
    | (refine Gn rfl 41 _ rfl (Dd (Ajj buf a) 0) ?cc ?_;case cc=>refine Eq.trans (congrArg (prog.built 41) (?_:_=[(0,Value.int .i64 3),(6,.int .i64 buf),(7,.agg #[.int .i64 a.base,.slice a.A a.ts.length a.cap])])) (Abw buf a);simp[Act.eval])
    | (
      refine Bc rfl 41 _ _ rfl rb (Dd (Ajj buf a) 0) zEx 41 rfl rfl ae.o Ch rfl (Fo _ _) ?_
      intro w5 hB5 ad;have ah:=hd hB5;have al:=hd ad;clear hB5 ad))
   exact bodyPost_ret (results_cell_row rfl _ _ rb 41 _ (0,0) _ rfl ah.o underlying41 rfl (by kernel_rfl)) rfl (Mi (x:=.mk (Ajj buf a) []) (K:=wc.heap.size) (rb:=rb) (.mk _ _ (Ao.mono aU.o (fun b _ hb=>hb) (by omega)) (Ao.nil ..) (by simp)) (by simp[Al,Ap];exact Nat.one_le_pow _ _ (by omega)) ag.o az.o al.o (Nat.le_of_eq a2.o) aT (by rw[a2.o];exact a7.o) (by rw[a2.o];exact au.o))
  ·have bS:d≠0:=by omega
   rw[decide_eq_false hq];obtain⟨d',aO⟩:∃d',d'+1=d:=⟨d-1,by omega⟩;have aH:=hd aO;have HI:=hd (be.o d' aO);have b2:Hd (KD d=100*KD d'):=hd (by rw[<-aO];exact Ajn d');have aI:=hd (Ab1 d');clear aO;by_cases bL:k=2
   ·subst bL;have qp:=ac.o.blk.cell;have a8:=ac.o.blk.lt;unfold Db at qp;go_wp2_with fail
    refine(Xs base g n _ (ac.o.stm.less (by have:=af.o;omega))).mono ?_
    rintro e w4 ⟨r,rfl,_,hE,hS⟩;have ag:=hd (ay.o.trans hE);have az:=hd hS;have ae:=hd (ao.o.ext hE (by rw[jA];have:=a7.o;omega));clear hE hS qp a8
    go_wp2_with (first
     | (refine Gn rfl 41 _ rfl (Dd (Ajk r) 0) ?cc ?_;case cc=>refine Eq.trans (congrArg (prog.built 41) (?_:_=[(0,Value.int .i64 1),(4,.int .i64 r)])) (Abx r);simp[Act.eval])
     | (
       refine Bc rfl 41 _ _ rfl rb (Dd (Ajk r) 0) zEx 41 rfl rfl ae.o Ch rfl (Fo _ _) ?_
       intro w5 hB5 ad;have ah:=hd hB5;have al:=hd ad;clear hB5 ad))
    exact bodyPost_ret (results_cell_row rfl _ _ rb 41 _ (0,0) _ rfl ah.o underlying41 rfl (by kernel_rfl)) rfl (Mi (x:=.mk (Ajk r) []) (K:=wc.heap.size) (rb:=rb) (.mk _ _ (Ra ..) (Ao.nil ..) (by simp)) (by simp[Al,Ap];exact Nat.one_le_pow _ _ (by omega)) ag.o az.o al.o (Nat.le_of_eq a2.o) aT (by rw[a2.o];exact a7.o) (by rw[a2.o];exact au.o))
   ·by_cases aL:k=3
    ·subst aL;go_wp2_with fail
     refine(Mg base g pb n bc bA bs V l cnt 9 _ (ac.o.less (by have:=af.o;omega)) (by omega)).mono ?_
     rintro e w4 ⟨a,rfl,ha,hE,hS⟩;have aU:=hd ha;have ag:=hd (ay.o.trans hE);have az:=hd hS;have ae:=hd (ao.o.ext hE (by rw[jA];have:=a7.o;omega));clear hE hS ha;unfold afV
     go_wp2_with (first
      | (refine Gn rfl 41 _ rfl (Dd (Ajl a) 0) ?cc ?_;case cc=>refine Eq.trans (congrArg (prog.built 41) (?_:_=[(0,Value.int .i64 2),(7,.agg #[.int .i64 a.base,.slice a.A a.ts.length a.cap])])) (Aby a);simp[Act.eval])
      | (
        refine Bc rfl 41 _ _ rfl rb (Dd (Ajl a) 0) zEx 41 rfl rfl ae.o Ch rfl (Fo _ _) ?_
        intro w5 hB5 ad;have ah:=hd hB5;have al:=hd ad;clear hB5 ad))
     exact bodyPost_ret (results_cell_row rfl _ _ rb 41 _ (0,0) _ rfl ah.o underlying41 rfl (by kernel_rfl)) rfl (Mi (x:=.mk (Ajl a) []) (K:=wc.heap.size) (rb:=rb) (.mk _ _ (Ao.mono aU.o (fun b _ hb=>hb) (by omega)) (Ao.nil ..) (by simp)) (by simp[Al,Ap];exact Nat.one_le_pow _ _ (by omega)) ag.o az.o al.o (Nat.le_of_eq a2.o) aT (by rw[a2.o];exact a7.o) (by rw[a2.o];exact au.o))
    ·by_cases bM:k=4
     ·subst bM;obtain⟨q,sz,rfl,aP,aQ,ak⟩:=ac.o.bufC aS.o;have aV:=hd ak;have HZ:=hd (And.intro aP aQ);clear ak aP aQ;obtain⟨mn,bH⟩:∃m:Int,min 3 sz=m:=⟨_,rfl⟩;have b3:Hd (1<=mn/\mn<=3):=hd (by have:=HZ.o;omega);have bh:(buf:Int)<(bs.length:Int):=by have:=aS.o;omega
      go_upto_region 10 with fail
      refine rgC 15 1 base g (n+KD d-60) [(14,sIn 1 3)] (Am.cons sIn.stays Am.nil) (ac.o.stm.less (by have:=af.o;omega)) ?_
      simp only[TK]
      repeat(refine dE (fun wr nr hJ=>by(have hB:=ac.o.draw hJ.1 hJ.2;have qp:=hB.blk.cell;have a8:=hB.blk.lt;have qc:=(aV.o wr hJ.1).1;have bi:=(aV.o wr hJ.1).2;unfold Db at qp;clear hB);clear hJ;exact CL) ?_;simp only[PT])
      refine Bz (sIn 1 3) rfl rfl ?_ ?_
      ·refine EC fun wr m hE hS hm hf=>?_
       refine(Ce base g m 1 mn wr hS (by omega) (by have:=b3.o;omega)).mono ?_
       rintro e w' ⟨r,rfl,hr,aa,ab⟩;exact⟨r,rfl,⟨hr.1,by have:=b3.o;omega⟩,aa,ab⟩
      intro (m:Int);simp only[PT];refine Aj (fun w4 hJ hF=>?_)
      have aA:1<=m/\m<=3:=hF 14;have HM:=hd aA;have am:=hd (ac.o.draw hJ.1 hJ.2);have ag:=hd (ay.o.trans hJ.1);have ae:=hd (ao.o.ext hJ.1 (by rw[jA];have:=a7.o;omega));have aB:=hd (fun W (hW:Ext [g] w4 W)=>aV.o W (hJ.1.trans hW));clear hJ hF aA bH;dsimp only[sIn];go_upto_region 11 with fail
      have an:=ae.o.lt;generalize hH:w4.heap.size=H4 at *;have bT:=hd hH;have aC:Hd (g<H4):=hd (by have:=a7.o;omega);refine rgC 31 (KD d') base g n [(17,Dr),(23,Dr),(28,sEx H4 (4 ^ d')),(29,Pm H4 (4 ^ d'))] (Am.cons Dr.stays (Am.cons Dr.stays (Am.cons (sEx.stays aC.o) (Am.cons (Pm.stays aC.o) Am.nil)))) (am.o.stm.less (by have:=b2.o;have:=aI.o;omega)) ?_
      simp only[TK]
      repeat(refine dE (fun wr nr hJ=>by(have hB:=am.o.draw hJ.1 hJ.2;have qp:=hB.blk.cell;have a8:=hB.blk.lt;have qc:=(aB.o wr hJ.1).1;have bi:=(aB.o wr hJ.1).2;unfold Db at qp;clear hB);clear hJ;exact CL) ?_;simp only[PT])
      refine Bz Dr rfl rfl ?_ ?_
      ·refine EC fun wr m' hE hS hm hf=>?_
       refine(Cb base g m' _ wr (hS.less (by have:=aI.o;omega)) (by unfold wrap64;omega)).mono ?_
       rintro e w' ⟨r,rfl,_,aa,ab⟩;exact⟨r,rfl,trivial,aa,ab⟩
      intro (r1:Int);simp only[PT];dsimp only[Dr]
      repeat(refine dE (fun wr nr hJ=>by(have hB:=am.o.draw hJ.1 hJ.2;have qp:=hB.blk.cell;have a8:=hB.blk.lt;unfold Db at qp;clear hB);clear hJ;exact CL) ?_;simp only[PT])
      refine Bz Dr rfl rfl ?_ ?_
      ·refine EC fun wr m' hE hS hm hf=>?_
       refine(Ce base g m' (-2) 3 wr (hS.less (by have:=aI.o;omega)) (by omega) (by omega)).mono ?_
       rintro e w' ⟨r,rfl,_,aa,ab⟩;exact⟨r,rfl,trivial,aa,ab⟩
      intro (r2:Int);simp only[PT];dsimp only[Dr];have bj:(d:Int)-1=(d':Int):=by have:=aH.o;omega
      repeat(refine dE (fun wr nr hJ=>by clear hJ;exact CL) ?_;simp only[PT])
      refine Bz (sEx H4 (4 ^ d')) rfl rfl ?_ ?_
      ·refine EC fun wr m' hE hS hm hf=>?_
       refine(HI.o base g pb m' bc _ bs V l cnt wr (am.o.draw hE hS)).mono ?_
       rintro e w' ⟨x,rfl,hx,hp,aa,ab⟩;exact⟨x,rfl,⟨hx.mono (fun b _ hb=>by have:=hE.size;omega) (jD _),hp⟩,aa,ab⟩
      intro (x:Ex);simp only[PT];dsimp only[sEx];refine Ew (Pm H4 (4 ^ d')) rfl rfl ?_ ?_
      ·intro wr hE hf;have hv:(sEx H4 (4 ^ d')).V x wr:=Cw hf 28 (by kernel_rfl);have h1:Ext [] wr (wr.alloc (.cells (An x) 41)):=(jF _ _).alloc _;refine⟨(wr.heap.size,x),.cells (An x) 41,?_,by have:=hE.size;show H4<=wr.heap.size;omega,jK _ _ _,ExA.ext h1 (by simp) hv.1,hv.2⟩
       refine As rfl _ wr _ _ (exV x) ?_ ?_
       ·rfl
       ·exact Mw wr x
      rintro⟨kb,y⟩;simp only[PT];dsimp only[Pm];refine Ha rfl rfl ⟨.agg (Dd (Ajm buf ⟨r1,none,0,[]⟩ r2 m kb) 1),fun wr nr hJ=>Hf 41 _ rfl _ (by refine Eq.trans (congrArg (prog.built 41) (?_:_=[(0,Value.int .i64 4),(6,.int .i64 buf),(7,.agg #[r1,.slice none 0 0]),(2,.int .i64 r2),(4,.int .i64 1),(5,.int .i64 m),(8,.slice (some kb) 1 1)])) (Abz buf ⟨r1,none,0,[]⟩ r2 m kb);simp[Act.eval]),?_⟩
      simp only[PT];refine Aj (fun w5 hJ hF=>?_)
      have hv:(Pm H4 (4 ^ d')).V (kb,y) w5:=hF 29;have HV:=hd hv;have al:=hd (ag.o.trans hJ.1);have bk:=hd hJ.2;have bl:=hd (ae.o.ext hJ.1 (by rw[jA];have:=a7.o;omega));clear hJ hF hv
      go_wp2_with (
             refine Bc rfl 41 _ _ rfl rb (Dd (Ajm buf ⟨r1,none,0,[]⟩ r2 m kb) 1) zEx 41 rfl rfl bl.o Ch rfl (Fo _ _) ?_
             intro w6 hB6 aq;have bm:=hd hB6;have bn:=hd aq;clear hB6 aq)
      refine bodyPost_ret (results_cell_row rfl _ _ rb 41 _ (0,0) _ rfl bm.o underlying41 rfl (by kernel_rfl)) rfl (Mi (x:=.mk (Ajm buf ⟨r1,none,0,[]⟩ r2 m kb) [y]) (K:=H4) (rb:=rb) (.mk _ _ (Ra ..) (Aht HV.o.2.1 HV.o.1 (by omega)) (fun e he=>by rw[jA.1 he];exact HV.o.2.2.1)) ?_ al.o (bk.o.less (by omega)) bn.o (Nat.le_of_eq a2.o) an (by rw[a2.o];exact a7.o) (by rw[a2.o];exact au.o))
      have hp:Al y<=4 ^ d':=HV.o.2.2.2;have h1:=Nat.one_le_pow d' 4 (by omega);simp only[Al,Ap];rw[<-aH.o,Nat.pow_succ];omega
     ·skip
      have qp:=ac.o.blk.cell;have a8:=ac.o.blk.lt;unfold Db at qp;go_upto_region 12 with fail
      go_wp2_with fail
      refine(Ce base g (n+KD d-60) 4 15 _ (ac.o.stm.less (by have:=af.o;omega)) (by omega) (by omega)).mono ?_
      rintro e w4 ⟨op,rfl,bK,hE,hS⟩;have bU:Hd (4<=op/\op<=15):=hd (by omega);have am:=hd (ac.o.draw hE hS);have ag:=hd (ay.o.trans hE);have ae:=hd (ao.o.ext hE (by rw[jA];have:=a7.o;omega));have an:=ae.o.lt;clear hE hS qp a8 bK;have ah:=hd (jK w4 41 (Dd (Mh op 0 0 0 none 0) 0));have ad:Ext [] w4 (w4.alloc (.cells (Dd (Mh op 0 0 0 none 0) 0) 41)):=(jF _ _).alloc _;have b4:(w4.alloc (.cells (Dd (Mh op 0 0 0 none 0) 0) 41)).heap.size=w4.heap.size+1:=Ag _ _;have a6:Hd (OpS w (w4.heap.size+1) base g pb (n+KD d-60) bA bc bs V l cnt rb w4.heap.size op 0 0 0 (.slice none 0 0) [] (4 ^ d') (w4.alloc (.cells (Dd (Mh op 0 0 0 none 0) 0) 41))):=hd ⟨ag.o.trans ad.nil,am.o.grow ad,ae.o.ext ad (by simp),ah.o,Cm _ _ _ _,by simp,Nat.le_of_eq a2.o,an,by omega,by rw[a2.o];exact a7.o,Nat.le_of_eq b4.symm⟩;clear ad b4 ah;have aJ:=hd (Fo (Mh op 0 0 0 none 0) 0);have b5:=hd (Ab0 op);have aK:=hd (Pn (Mh op 0 0 0 none 0) 0);have ap:=hd (Fe (Mh op 0 0 0 none 0) 0);generalize Dd (Mh op 0 0 0 none 0) 0=xo at *
      go_upto_region 13 with(first
       | (refine Gn rfl 41 _ rfl xo ?cc ?_;case cc=>refine Eq.trans (congrArg (prog.built 41) (?_:_=[(0,Value.int .i64 5),(1,.int .i64 op)])) b5.o;simp[Act.eval])
       | refine Ax rfl rfl 41 _ _ rfl rfl zEx (Kj _) xo rfl rfl ap.o aK.o aJ.o ?_)
      generalize World.alloc w4 _=w5 at *;generalize w4.heap.size=eb at *;clear aJ b5 aK ap am ag ae;have qe:=a6.o.blk.cell;have ai:=a6.o.blk.lt;go_upto_block 1 with fail
      clear qe ai;go_cut [] (fun wx=>∃lo hi k2:Int,Hd (OpS w (eb+1) base g pb (n+KD d-200) bA bc bs V l cnt rb eb op lo hi k2 (.slice none 0 0) [] (4 ^ d') wx))
      case first=>
       by_cases bN:op=12
       ·subst bN;go_upto_region 15 with fail
        refine rgC 11 1 base g (n+KD d-200) [(4,Dr),(9,Dr)] (Am.cons Dr.stays (Am.cons Dr.stays Am.nil)) (a6.o.bld.stm.less (by have:=af.o;omega)) ?_
        simp only[TK]
        repeat(refine dE (fun wr nr hJ=>by(have hB:=a6.o.bld.draw hJ.1 hJ.2;have qp:=hB.blk.cell;have a8:=hB.blk.lt;unfold Db at qp;clear hB);clear hJ;exact CL) ?_;simp only[PT])
        refine Bz Dr rfl rfl ?_ ?_
        ·refine EC fun wr m' hE hS hm hf=>?_
         refine(Ce base g m' (-9) 2 wr hS (by omega) (by omega)).mono ?_
         rintro e w' ⟨r,rfl,_,aa,ab⟩;exact⟨r,rfl,trivial,aa,ab⟩
        intro (r1:Int);simp only[PT];dsimp only[Dr]
        repeat(refine dE (fun wr nr hJ=>by(have hB:=a6.o.bld.draw hJ.1 hJ.2;have qp:=hB.blk.cell;have a8:=hB.blk.lt;unfold Db at qp;clear hB);clear hJ;exact CL) ?_;simp only[PT])
        refine Bz Dr rfl rfl ?_ ?_
        ·refine EC fun wr m' hE hS hm hf=>?_
         refine(Ce base g m' 2 9 wr hS (by omega) (by omega)).mono ?_
         rintro e w' ⟨r,rfl,_,aa,ab⟩;exact⟨r,rfl,trivial,aa,ab⟩
        intro (r2:Int);simp only[PT];dsimp only[Dr]
        repeat(refine dE (fun wr nr hJ=>by clear hJ;exact CL) ?_;simp only[PT])
        refine Aj (fun w6 hJ hF=>?_)
        have a1:=hd (a6.o.draw hJ.1 hJ.2);have qe:=a1.o.blk.cell;have aW:=a1.o.blk.frozen;have ai:=a1.o.blk.lt;have aj:=hd ((a1.o.set HD.o 2 (.int .i64 r1) rfl).set HD.o 3 (.int .i64 r2) rfl);clear hJ hF;go_wp2_with fail
        go_meet
        exact⟨r1,r2,0,hd (aj.o.less (by omega))⟩
       ·by_cases bO:op=13
        ·subst bO;have qp:=a6.o.bld.blk.cell;have a8:=a6.o.bld.blk.lt;unfold Db at qp;go_upto_region 17 with fail
         go_wp2_with fail
         refine(Ce base g (n+KD d-200) 1 31 _ (a6.o.bld.stm.less (by have:=af.o;omega)) (by omega) (by omega)).mono ?_
         rintro e w6 ⟨r1,rfl,_,hE,hS⟩;have a1:=hd (a6.o.draw hE hS);clear hE hS qp a8;have qe:=a1.o.blk.cell;have aW:=a1.o.blk.frozen;have ai:=a1.o.blk.lt;have aj:=hd (a1.o.set HD.o 4 (.int .i64 r1) rfl);go_wp2_with fail
         go_meet
         exact⟨0,0,r1,aj⟩
        ·by_cases bP:op=14
         ·subst bP;have qp:=a6.o.bld.blk.cell;have a8:=a6.o.bld.blk.lt;unfold Db at qp;have b6:=hd (jK w5 3 (Cj [1,2,3,7,2147483647]));have aq:Ext [] w5 (w5.alloc (.cells (Cj [1,2,3,7,2147483647]) 3)):=(jF _ _).alloc _;have a1:=hd (a6.o.draw aq.nil (a6.o.bld.stm.ext aq (by simp) (by simp)));have bV:=a6.o.bld.stm.lt;clear aq;simp only[Cj,List.map_cons,List.map_nil] at b6 a1;go_upto_region 19 with fail
          go_wp2_with fail
          refine(Cc base g (n+KD d-200) w5.heap.size 5 3 [1,2,3,7,2147483647] _ (a1.o.bld.stm.less (by have:=af.o;omega)) b6.o (by omega) (by decide)).mono ?_
          rintro e w7 ⟨r1,rfl,_,hE,hS⟩;have aj:=hd (a1.o.draw hE hS);clear hE hS qp a8 a1;have qe:=aj.o.blk.cell;have aW:=aj.o.blk.frozen;have ai:=aj.o.blk.lt;have bo:=hd (aj.o.set HD.o 4 (.int .i64 r1) rfl);go_wp2_with fail
          go_meet
          exact⟨0,0,r1,bo⟩
         ·go_wp2_with fail
          go_meet
          exact⟨0,0,0,hd (a6.o.less (by omega))⟩
      case rest=>
       obtain⟨lo,hi,k2,a1⟩:=hcut;clear a6;have qe:=a1.o.blk.cell;have ai:=a1.o.blk.lt
       obtain⟨nn,b7,b8⟩:∃nn:Nat,Hq op=nn/\nn<=3:=by
        unfold Hq;split
        ·exact⟨3,rfl,by omega⟩
        ·split
         ·exact⟨1,rfl,by omega⟩
         ·exact⟨2,rfl,by omega⟩
       have aX:=hd b8;have aD:=hd (Gl op wc);rw[b7] at aD;clear b8 b7
       obtain⟨F,ba,bb,bd⟩:∃F:Nat->Nat,F 0=n+24*KD d'/\(∀k,k<3->F k=F (k+1)+8*KD d')/\∀k,n<=F k:=⟨fun k=>n+(3-k)*(8*KD d'),by simp only[Nat.sub_zero];omega,fun k hk=>by
        have e:3-k=(3-(k+1))+1:=by omega
        simp only[e,Nat.succ_mul];omega,fun k=>by simp only;omega⟩
       have bp:=hd ba;have bq:=hd bb;have br:=hd bd;clear ba bb bd;go_upto_region 20 with fail
       go_wp2_with fail
       refine aD.o.mono ?_
       rintro e w7 ⟨rfl,rfl⟩;go_wp2_with fail
       clear qe ai;go_loopw [143] (fun i wr=>∃(k:Nat) (v:Value) (ks:List Ex),i=.int .i64 k/\k<=nn/\Hd (ks.length=k)/\Hd (OpS w (eb+1) base g pb (F k) bA bc bs V l cnt rb eb op lo hi k2 v ks (4 ^ d') wr)) (fun i _=>(nn-intOf i).toNat)
       case atStart=>exact⟨0,_,[],rfl,jQ _,hd rfl,hd (a1.o.less (by rw[bp.o];have:=b2.o;have:=aI.o;omega))⟩
       case round=>
        obtain⟨k,v,ks,rfl,hk,aF,HO⟩:=hrel;by_cases bQ:k<nn
        ·have bt:(k:Int)<nn:=by omega
         have bW:=hd bQ;go_wp2_with fail
         generalize hH:wr.heap.size=H4 at *;have aC:Hd (g<H4):=hd (by rw[<-hH];exact HO.o.bld.stm.lt);have bu:Hd (eb+1<=H4):=hd (by rw[<-hH];exact HO.o.hH);have bv:Hd (∀q,v.ownBlock=some q->q<H4):=hd fun q hq=>by rw[<-hH];exact(HO.o.own.lt q hq).2
         have aL:k<3:=by have:=aX.o;omega
         have bj:(d:Int)-1=(d':Int):=by have:=aH.o;omega
         refine rgC 7 (KD d') base g (F (k+1)) [(5,sEx H4 (4 ^ d')),(6,Pm H4 (4 ^ d'))] (Am.cons (sEx.stays aC.o) (Am.cons (Pm.stays aC.o) Am.nil)) (HO.o.bld.stm.less (by rw[bq.o k aL];omega)) ?_
         simp only[TK]
         repeat(refine dE (fun wr nr hJ=>by(have hB:=HO.o.draw hJ.1 hJ.2;have qe:=hB.blk.cell;have ai:=hB.blk.lt;clear hB);clear hJ;exact CL) ?_;simp only[PT])
         refine Bz (sEx H4 (4 ^ d')) rfl rfl ?_ ?_
         ·refine EC fun wr m' hE hS hm hf=>?_
          refine(HI.o base g pb m' bc _ bs V l cnt wr (HO.o.bld.draw hE hS)).mono ?_
          rintro e w' ⟨x,rfl,hx,hp,aa,ab⟩;exact⟨x,rfl,⟨hx.mono (fun b _ hb=>by have:=hE.size;omega) (jD _),hp⟩,aa,ab⟩
         intro (x:Ex);simp only[PT];dsimp only[sEx];refine Ew (Pm H4 (4 ^ d')) rfl rfl ?_ ?_
         ·intro wq hE hf;have hv:(sEx H4 (4 ^ d')).V x wq:=Cw hf 5 (by kernel_rfl);have h1:Ext [] wq (wq.alloc (.cells (An x) 41)):=(jF _ _).alloc _;refine⟨(wq.heap.size,x),.cells (An x) 41,?_,by have:=hE.size;show H4<=wq.heap.size;omega,jK _ _ _,ExA.ext h1 (by simp) hv.1,hv.2⟩
          refine As rfl _ wq _ _ (exV x) ?_ ?_
          ·rfl
          ·exact Mw wq x
         rintro⟨kb,y⟩;simp only[PT];dsimp only[Pm];refine Aj (fun wy hJ hF=>?_)
         have hv:(Pm H4 (4 ^ d')).V (kb,y) wy:=hF 6;have HV:=hd hv;have aE:=hd ((HO.o.draw hJ.1 hJ.2).less (m:=F (k+1)) (by omega));have bx:Hd (ExA (fun b=>eb+1<=b/\v.ownBlock≠some b) 10 wy y):=hd (ExA.mono (fun b _ hb=>⟨nt bu.o hb,fun e=>by have:=bv.o b e;omega⟩) (jD _) hv.2.2.1);clear hJ hF hv;obtain⟨i0,bI,bJ,aP,aQ⟩:=Xg;have bX:ks.length<3:=by rw[aF.o];exact aL
         go_wp2_with (
          refine wpList_append_lies _ rfl _ _ 39 rfl (eb+1) 41 i0 _ 10 112 underlying39 bI bJ aP aQ rfl (by decide) v ks.length (ks.flatMap exC) rfl aE.o.own ⟨kb,0,none⟩ 1 1 (exC y) rfl (Hx y) ?c1 (Xh y) (by omega) ?c3 ?c4 aE.o.hH _ rfl ?_
          case c1=>intro j u hj;rw[Addr.add_mk,Nat.zero_add,HV.o.2.1.cell,<-Array.getElem?_toList,<-Ey];exact hj
          case c3=>unfold maxLen;omega
          case c4=>omega
          intro g8 c8 w8 ho8 hg8 hi8 ha8;have aM:Hd (Ext v.ownBlock.toList wy w8):=hd ((jF _ wy).grown hg8 fun q hq=>.inl (jC.2 hq));have bz:=hd (aE.o.more HD.o aM.o ho8 (hi8.imp id fun e=>Nat.le_of_eq e.symm) bx.o HV.o.2.2.2);have aN:=aE.o.blk.ext aM.o fun hm=>by have:=Ad aE.o.own _ (jC.1 hm);omega
          have qe:=aN.cell;have aW:=aN.frozen;have ai:=aN.lt;clear ho8 hg8 hi8 ha8 aN)
         go_roundw
         case rel=>exact⟨k+1,_,ks ++ [y],by go_num,by omega,hd (by rw[jG,aF.o];rfl),bz⟩
         case measure=>simp[intOf];omega
        ·skip
         obtain⟨VA,vc,rfl,-,-⟩:=Bg HO.o.own;have bB:=hd (Ao.own (P:=fun b=>eb+1<=b) (N:=10) Hx HO.o.own (by rw[aF.o];have:=aX.o;omega) (by decide) (fun q _ h1 _=>h1)).2;have bC:Hd (ExA (fun b=>eb+1<=b) 10 wr (.mk (Mh op lo hi k2 VA vc) ks)):=hd (.mk _ _ (Ra ..) bB.o fun x hx=>ExA.mono (fun b _ hb=>hb.1) (jD _) (HO.o.kid x hx).1)
         have bD:Hd (Al (.mk (Mh op lo hi k2 VA vc) ks)<=4 ^ d):=hd (by
          have h1:=Tj (N:=4 ^ d') fun x hx=>(HO.o.kid x hx).2
          have h2:=Nat.one_le_pow d' 4 (by omega);have h3:ks.length*4 ^ d'<=3*4 ^ d':=Nat.mul_le_mul_right _ (by rw[aF.o];have:=aX.o;omega);rw[Al,<-aH.o,Nat.pow_succ];omega)
         have bE:Hd (Blk wr eb 41 (An (.mk (Mh op lo hi k2 VA vc) ks))):=hd HO.o.blk;have aJ:=hd (Fu (.mk (Mh op lo hi k2 VA vc) ks));have ap:=hd (show(prog.info? 41).map (·.size)=some (An (.mk (Mh op lo hi k2 VA vc) ks)).size from Ch);have aK:=hd (show zEx.size=(An (.mk (Mh op lo hi k2 VA vc) ks)).size from rfl);have bF:=hd (Cq (.mk (Mh op lo hi k2 VA vc) ks));generalize Ex.mk (Mh op lo hi k2 VA vc) ks=xx at *;generalize An xx=xa at *
         go_wp2_with (first
          | refine Ac rfl 41 _ rfl eb 0 rfl xa bE.o.wide _ underlying41 rfl ap.o ?_
          | (
            refine Bc rfl 41 _ _ rfl rb xa zEx 41 rfl rfl HO.o.res ap.o aK.o aJ.o ?_
            intro w8 hB8 hE8;have bG:=hd hB8;have aM:=hd hE8;clear hB8 hE8))
         rw[<-aF.o] at *;refine bodyPost_ret (results_cell_row rfl _ _ rb 41 _ (0,0) _ rfl bG.o underlying41 rfl ap.o) rfl ?_
         rw[<-bF.o];exact Mi (x:=xx) (K:=eb+1) (rb:=rb) bC.o bD.o HO.o.ext (HO.o.bld.stm.less (br.o _)) aM.o (Nat.le_of_eq a2.o) (by have:=HO.o.eb0;omega) (by rw[a2.o];exact a7.o) (by rw[a2.o];exact au.o)
end
section
attribute [local irreducible] Bj
theorem Vv:∀d,d<=1000->Akr d
 | 0,h=>Tl 0 h fun e he=>by omega
 | d+1,h=>Tl (d+1) h fun e he=>by
  have:e=d:=by omega
  subst this;exact Vv e (by omega)
def Xi (buf:Int)(a:Af)(x:Ex):SH:=⟨3,⟨#[]⟩,0,0,0,false,none,0,[],none,0,buf,a,x⟩
theorem Ab2 (buf:Int)(a:Af)(x:Ex):prog.built 43 [(0,.int .i64 3),(8,.int .i64 buf),(9,.agg #[.int .i64 a.base,.slice a.A a.ts.length a.cap]),(10,.agg (Dd x.h x.ks.length))]=some (Ai (Xi buf a x) 0 x.h x.ks.length):=by kernel_rfl
def StP (base g n N:Nat)(w:World)(e:Ending)(w':World):Prop:=∃s:St,e=.returned (stV s)/\StA (fun b=>w.heap.size<=b) N w' s/\Ext [g] w w'/\Stm w' base g n
theorem StA.past {w w':World}{H K N rb:Nat}{s:St}(h:StA (fun b=>K<=b) N w s)(hE:Ext [rb] w w')(hr:rb<K)(hH:H<=K):StA (fun b=>H<=b) N w' s:=
 StA.mono (fun b _ hb=>by omega) (jD _) (StA.ext hE (fun y hy=>by rw[jA.1 hy];omega) h)
set_option maxRecDepth 100000 in
theorem Tm (base g pb n bc:Nat)(bA:Option Addr)(bs:List Bf)(V:Value)(l:List St)(cnt:Int)(w:World)(h:Bld w base g pb (n+100*KD 2) bA bc bs V l cnt) :
  Calls prog 152 #[.pointer (some pb)] w (StP base g n 20 w):=by
 have HD:=hd h;have a7:=hd (Ab1 2);have ag:=hd (And.intro h.bne h.b9);have al:Hd (base<=w.heap.size):=hd (by have:=h.bpb;have:=h.blk.lt;omega);have am:=hd (fun d (ac:d<=2)=>Vv d (by omega))
 have an:Hd (∀d,d<=2->KD d<=KD 2/\4 ^ d<=16):=hd fun d ac=>by
  have:d=0\/d=1\/d=2:=by omega
  rcases this with rfl|rfl|rfl<;>decide
 clear h;generalize KD 2=K2 at *;go_enter func152,ntmps152
 go_upto_region 1 with fail
 have ad:=hd ((jF [g] w).alloc (.cells zSt 43));have a8:=hd (jK w 43 zSt);have a6:=hd (HD.o.grow ((jF [] w).alloc (.cells zSt 43)));unfold zSt at ad a8 a6;generalize World.alloc w _=w1 at *;change Hd (Blk w1 w.heap.size 43 zSt) at a8;generalize af:w.heap.size=rb at *;have ah:=hd af;have aa:Hd (g<rb):=hd (by rw[<-af];exact HD.o.stm.lt);clear af;refine rgC 11 1 base g (n+100*K2-20) [(10,Fs bs.length)] (Am.cons Fs.stays Am.nil) (a6.o.stm.less (by have:=a7.o;omega)) ?_
 simp only[TK]
 repeat(refine dE (fun wr nr hJ=>by(have hB:=a6.o.draw hJ.1 hJ.2;have qp:=hB.blk.cell;have ao:=hB.blk.lt;unfold Db at qp;clear hB);clear hJ;exact CL) ?_;simp only[PT])
 refine Bz (Fs bs.length) rfl rfl ?_ ?_
 ·refine EC fun wr m hE hS hm hf=>?_
  refine(Cb base g m (bs.length:Int) wr hS (by have:=ag.o.2;omega)).mono ?_
  rintro e w' ⟨r,rfl,hr,a1,a2⟩;exact⟨r,rfl,⟨hr.1,hr.2 (by have:=ag.o.1;omega)⟩,a1,a2⟩
 intro (buf0:Int);simp only[PT];refine Aj (fun w2 hJ hF=>?_)
 have ap:0<=buf0/\buf0<bs.length:=hF 10;obtain⟨buf,rfl⟩:∃b:Nat,buf0=b:=⟨buf0.toNat,by omega⟩;have aq:Hd (buf<bs.length):=hd (by omega);have ab:=hd ((a6.o.draw hJ.1 hJ.2).less (m:=n+100*K2-20) (by omega));have au:=hd (ad.o.trans hJ.1);have ai:=hd (a8.o.ext hJ.1 (by rw[jA];have:=aa.o;omega));clear hJ hF ap a6 ad a8;dsimp only[Fs];go_upto_region 2 with fail
 have aw:=ai.o.lt;generalize hH:w2.heap.size=H2 at *;have aH:=hd hH;have aj:Hd (g<H2):=hd (by have:=aa.o;omega);refine rgC 12 (2*K2) base g n [(3,sAf H2),(9,sIn 0 2),(10,sEx H2 16)] (Am.cons (sAf.stays aj.o) (Am.cons sIn.stays (Am.cons (sEx.stays aj.o) Am.nil))) (ab.o.stm.less (by have:=a7.o;omega)) ?_
 simp only[TK]
 repeat(refine dE (fun wr nr hJ=>by clear hJ;exact CL) ?_;simp only[PT])
 refine Bz (sAf H2) rfl rfl ?_ ?_
 ·refine EC fun wr m hE hS hm hf=>?_
  refine(Qf base g pb m bc buf bA bs V l cnt wr ((ab.o.draw hE hS).less (by have:=a7.o;omega)) aq.o).mono ?_
  rintro e w' ⟨a,rfl,ha,a1,a2⟩;exact⟨a,rfl,Ao.mono ha (fun b _ hb=>by have:=hE.size;omega) (jD _),a1,a2⟩
 intro (a:Af);simp only[PT];dsimp only[sAf]
 repeat(refine dE (fun wr nr hJ=>by(have hB:=ab.o.draw hJ.1 hJ.2;have qp:=hB.blk.cell;have ao:=hB.blk.lt;unfold Db at qp;clear hB);clear hJ;exact CL) ?_;simp only[PT])
 refine Bz (sIn 0 2) rfl rfl ?_ ?_
 ·refine EC fun wr m hE hS hm hf=>?_
  refine(Cb base g m 3 wr (hS.less (by have:=a7.o;omega)) (by omega)).mono ?_
  rintro e w' ⟨r,rfl,hr,a1,a2⟩;exact⟨r,rfl,⟨hr.1,by have:=hr.2 (by omega);omega⟩,a1,a2⟩
 intro (dd:Int);simp only[PT];dsimp only[sIn];refine Bz (sEx H2 16) rfl rfl ?_ ?_
 ·refine EC fun wr m hE hS hm hf=>?_
  have hv:(sIn 0 2).V dd wr:=Cw hf 9 (by kernel_rfl);obtain⟨d,rfl⟩:∃d:Nat,dd=d:=⟨dd.toNat,by have:=hv.1;omega⟩;have ac:d<=2:=by have:=hv.2;omega
  have hk:=an.o d ac;refine(am.o d ac base g pb m bc bA bs V l cnt wr ((ab.o.draw hE hS).less (by omega))).mono ?_
  rintro e w' ⟨x,rfl,hx,hp,a1,a2⟩;exact⟨x,rfl,⟨hx.mono (fun b _ hb=>by have:=hE.size;omega) (jD _),by omega⟩,a1,a2⟩
 intro (x:Ex);simp only[PT];dsimp only[sEx];have ax:=hd (Cz (Xi buf a x) 0 x.h x.ks.length);have ak:=hd (show(prog.info? 43).map (·.size)=some (Ai (Xi buf a x) 0 x.h x.ks.length).size from Dv);have ay:=hd (show zSt.size=(Ai (Xi buf a x) 0 x.h x.ks.length).size from rfl);have az:=hd (show stV (.mk (Xi buf a x) [])=.agg (Ai (Xi buf a x) 0 x.h x.ks.length) from rfl);have aA:=hd (Ab2 buf a x);have aB:=hd (show exV x=.agg (Dd x.h x.ks.length) by cases x;rfl);generalize Ai (Xi buf a x) 0 x.h x.ks.length=sa at *;rw[aB.o];refine Ha rfl rfl ⟨.agg sa,fun wr nr hJ=>Hf 43 _ rfl _ (by refine Eq.trans (congrArg (prog.built 43) (?_:_=[(0,Value.int .i64 3),(8,.int .i64 buf),(9,.agg #[.int .i64 a.base,.slice a.A a.ts.length a.cap]),(10,.agg (Dd x.h x.ks.length))])) aA.o;simp[Act.eval,afV]),?_⟩
 simp only[PT];refine Aj (fun w3 hJ hF=>?_)
 have ha:(sAf H2).V a w3:=hF 3;have hx:(sEx H2 16).V x w3:=hF 10;have HA:=hd ha;have HX:=hd hx;have aC:=hd (au.o.trans hJ.1);have aD:=hd hJ.2;have aE:=hd (ai.o.ext hJ.1 (by rw[jA];have:=aa.o;omega));clear hJ hF ha hx
 go_wp2_with (
        refine Bc rfl 43 _ _ rfl rb sa zSt 43 rfl rfl aE.o ak.o ay.o ax.o ?_
        intro w4 hB4 hE4;have aF:=hd hB4;have ae:=hd hE4;clear hB4 hE4)
 have aG:Hd (StA (fun b=>H2<=b) 20 w3 (.mk (Xi buf a x) [])):=hd (.mk _ _ (Ao.nil ..) (fun a h=>by simp[Xi] at h) (Ao.mono HA.o (fun b _ hb=>hb) (by omega)) (HX.o.1.mono (fun b _ hb=>hb) (by omega)) (by have:=HX.o.2;show Al x<=20;omega) (by show(⟨#[]⟩:ByteArray).size<=20;decide) (by decide) (Ao.nil ..) (fun s h=>by cases h));refine bodyPost_ret (results_cell_row rfl _ _ rb 43 _ (0,0) _ rfl aF.o underlying43 rfl ak.o) rfl ?_
 rw[<-az.o];exact⟨_,rfl,aG.o.past ae.o aw (by have:=ah.o;omega),aC.o.step ae.o fun y hy=>.inr (by rw[jA.1 hy];exact Nat.le_of_eq ah.o),aD.o.ext ae.o (by rw[jA];have:=aa.o;omega) (fun y hy=>by rw[jA.1 hy];have:=al.o;omega) |>.less (by omega)⟩
end
section
theorem Fp.done {ops:Array Oper}{i:Nat}{r:Nat->Bool}(h:Fp ops i r)(j:Nat)(hj:(ops[i]?.map fun oi=>oi.after.any fun e=>Region.binds .any e&&e.on==j)=some true):r j=false:=by
 cases ho:ops[i]? with
 | none=>rw[ho] at hj;cases hj
 | some oi=>
  rw[ho] at hj;simp only[Option.map_some,Option.some.injEq] at hj;obtain⟨e,he,hb⟩:=Array.any_eq_true'.1 hj;simp only[Bool.and_eq_true,beq_iff_eq] at hb;rw[<-hb.2];exact h.ready oi ho e he hb.1
theorem Kz:∀(vs:List Value) (o:Nat) (C:Array Value),(Gk C o vs).size=C.size
 | [],_,_=>rfl
 | v :: r,o,C=>by rw[Gk,Kz r];simp
theorem Mj:∀(vs:List Value) (o:Nat) (C:Array Value) (i:Nat),o+vs.length<=C.size->(Gk C o vs)[i]? = if o<=i/\i<o+vs.length then vs[i-o]? else C[i]?
 | [],o,C,i,_=>by rw[Gk,ijn (by simp only[List.length_nil];omega)]
 | v :: r,o,C,i,h=>by
  rw[List.length_cons] at h;rw[Gk,Mj r (o+1) _ i (by simp;omega),List.length_cons];by_cases h1:o+1<=i/\i<o+1+r.length
  ·rw[ijp h1,ijp (by omega)];have e:i-o=(i-(o+1))+1:=by omega
   rw[e,List.getElem?_cons_succ]
  ·rw[ijn h1,Array.getElem?_setIfInBounds];by_cases h2:o=i
   ·subst h2;rw[ijp rfl,ijp (by omega),ijp (by omega),Nat.sub_self];rfl
   ·rw[ijn h2,ijn (by omega)]
theorem Zp {w:World}{B e s n c g:Nat}{xs ys zs:List Value}(h:w.ownsRow B e s (.slice (some g) (n+1) c) (n+1) (xs ++ ys))(hx:xs.length=n*s)(hz:zs.length=s) :
  (w.setCells g (n*s) zs).ownsRow B e s (.slice (some g) (n+1) c) (n+1) (xs ++ zs)/\∃a1,Blk w g e a1/\n*s+s<=a1.size:=by
 have hl:=h.1;rcases h.2 with⟨h1,-⟩|⟨g',c',a1,hv,hb,hg,h1,h2,h3,h4⟩
 ·cases h1
 ·cases hv
  have a2:(n+1)*s<=c*s:=Nat.mul_le_mul_right s h1;rw[Nat.succ_mul] at a2;have a6:n*s+s<=a1.size:=by rw[h3];exact a2
  refine⟨⟨by rw[jG,hx,hz,Nat.succ_mul],.inr ⟨g,c,Gk a1 (n*s) zs,rfl,hb,Blk.many zs (n*s) a1 w hg,h1,h2,by rw[Kz];exact h3,?_⟩⟩,a1,hg,a6⟩
  refine List.ext_getElem? fun i=>?_
  rw[List.getElem?_take,Nat.succ_mul];by_cases hi:i<n*s+s
  ·rw[ijp hi,Array.getElem?_toList,Mj zs (n*s) a1 i (by rw[hz];exact a6),hz];by_cases h5:n*s<=i
   ·rw[ijp ⟨h5,hi⟩,jM (by rw[hx];exact h5),hx]
   ·rw[ijn (by omega),List.getElem?_append_left (by rw[hx];omega)];have h6:=congrArg (fun l:List Value=>l[i]?) h4;simp only[List.getElem?_take,Nat.succ_mul] at h6;rw[ijp hi,List.getElem?_append_left (by rw[hx];omega),Array.getElem?_toList] at h6;exact h6
  ·rw[ijn hi,List.getElem?_eq_none (by rw[jG,hx,hz];omega)]
theorem Ahu:stC (.mk ⟨0,⟨#[]⟩,0,0,0,false,none,0,[],none,0,0,afZ,.mk exZ []⟩ [])=zSt.toList:=rfl
def V7 (base:Nat)(V:Value)(l:List St)(H:Nat)(u:Nat×Nat)(w:World):Prop:=(V.ownBlock=some u.1\/H<u.1)/\∃s',w.ownsRow base 43 21 (.slice (some u.1) (l.length+1) u.2) (l.length+1) (l.flatMap stC ++ stC s')
structure JP (w0:World)(base pb:Nat)(V:Value)(l:List St)(oldA:Array Value)(H:Nat)(r:Nat->Bool)(w:World):Prop where
 ext:Ext (pb :: V.ownBlock.toList) w0 w
 row:r 7=true->w.ownsRow base 43 21 V l.length (l.flatMap stC)
 blk:r 12=true->Blk w pb 188 oldA
 siz:r 6=true->w.heap.size=H
 buf:r 6=false->r 7=true->Blk w H 43 zSt/\w.heap.size=H+1
 big:H<=w.heap.size
def RP (base pb:Nat)(V:Value)(l:List St)(H:Nat)(oldA:Array Value)(j:Nat)(w w':World):Prop:=
 if j=7 then Blk w pb 188 oldA else if j=9 then(∀u,V7 base V l H u w->V7 base V l H u w')/\∀A,Blk w pb 188 A->Blk w' pb 188 A
 else if j=12 then Ext [pb] w w'/\∃A,Blk w pb 188 A else Ext [] w w'
section
variable {w0 w w':World} {base pb H:Nat} {V:Value} {l:List St} {oldA:Array Value} {r:Nat->Bool} {i:Nat} {u:Nat×Nat}
theorem JP.pure (h:JP w0 base pb V l oldA H r w)(h6:i≠6)(h7:i≠7)(h12:i≠12):JP w0 base pb V l oldA H (off r i) w:=by
 have e6:off r i 6=r 6:=by unfold off;simp[Ne.symm h6]
 have e7:off r i 7=r 7:=by unfold off;simp[Ne.symm h7]
 have a1:off r i 12=r 12:=by unfold off;simp[Ne.symm h12]
 exact⟨h.ext,by rw[e7];exact h.row,by rw[a1];exact h.blk,by rw[e6];exact h.siz,by rw[e6,e7];exact h.buf,h.big⟩
theorem JP.start (h1:w.ownsRow base 43 21 V l.length (l.flatMap stC))(h2:Blk w pb 188 oldA)(r6:r 6=true):JP w base pb V l oldA w.heap.size r w.drew:=
 ⟨(jF _ _).drew,fun _=>h1,fun _=>h2,fun _=>rfl,fun h=>(by rw[r6] at h;cases h),jD _⟩
theorem V7.ext0 (h:V7 base V l H u w)(hE:Ext [] w w'):V7 base V l H u w':=⟨h.1,by obtain⟨s',hs⟩:=h.2;exact⟨s',Ah hs hE (by simp)⟩⟩
theorem V7.farP (h:V7 base V l H u w){A:Array Value}(hB:Blk w pb 188 A)(hE:Ext [pb] w w'):V7 base V l H u w':=⟨h.1,by
 obtain⟨s',hs⟩:=h.2;exact⟨s',Ah hs hE fun q hq=>by rw[jA];exact Bx hs hB (by decide) q hq⟩⟩
theorem V7.stays {j:Nat}(hj:j≠7)(hR:RP base pb V l H oldA j w w')(h:V7 base V l H u w):V7 base V l H u w':=by
 unfold RP at hR;rw[ijn hj] at hR;split at hR
 ·exact hR.1 u h
 ·split at hR
  ·obtain⟨hE,A,hA⟩:=hR;exact h.farP hA hE
  ·exact h.ext0 hR
theorem JP.make (h:JP w0 base pb V l oldA H r w)(hr:r 6=true):w.heap.size=H/\JP w0 base pb V l oldA H (off r 6) (w.alloc (.cells zSt 43))/\RP base pb V l H oldA 6 w (w.alloc (.cells zSt 43)):=by
 have hE:Ext [] w (w.alloc (.cells zSt 43)):=(jF _ _).alloc _;have hs:=h.siz hr;have e7:off r 6 7=r 7:=by unfold off;simp
 have a1:off r 6 12=r 12:=by unfold off;simp
 have e6:off r 6 6=false:=by unfold off;simp
 refine⟨hs,⟨h.ext.trans hE.nil,fun h7=>Ah (h.row (e7 ▸ h7)) hE (by simp),fun h12=>(h.blk (a1 ▸ h12)).ext hE (by simp),fun h6=>(by rw[e6] at h6;cases h6),fun _ _=>?_,nt h.big hE.size⟩,by unfold RP;simp;exact hE⟩
 have hB:=jK w 43 zSt;rw[hs] at hB;exact⟨hB,by rw[Ag,hs]⟩
theorem Jb:∃i,prog.info? 43=some i/\i.zero=some (.agg zSt)/\i.size=21/\i.bytes=256:=info_parts (show((prog).info? 43).map (fun i=>(i.zero,i.size,i.bytes))=some (some (.agg zSt),21,256) by kernel_rfl)
theorem Ajo:∀u∈zSt.toList,u.oneCell'=true:=by
 intro u hu;simp only[zSt,jE,jH,or_false] at hu;rcases hu with rfl|rfl|rfl|rfl|rfl|rfl|rfl|rfl|rfl|rfl|rfl|rfl|rfl|rfl|rfl|rfl|rfl|rfl|rfl|rfl|rfl<;>rfl
theorem Qg {P:Program}{o:Oper}{s x:Operand}{t:TypeId}(ho:o.op=.call {callee:=.builtin .append,args:=#[s,x],argTypes:=#[t,t] })(ev:Operand->Value)(w w':World)(v y u:Value)(hs:ev s=v)(hx:ev x=y)
  (h:(Builtin.append_ #[t,t] o.type #[v,y]).run P w=.ok u w'):(execOp ev o).run P w=.ok (.value u) w':=by
 unfold execOp;simp only[ho,resolve,invoke,builtin,Sem.run_bind,Sem.run_pure,Result.andThen_ok,List.map_toArray,List.map_cons,List.map_nil,hs,hx,h]
set_option maxRecDepth 100000 in
theorem JP.app (ty:TypeId)(h:JP w0 base pb V l oldA H r w)(h7:r 7=true)(h6:r 6=false)(h12:r 12=true)(hl:l.length<=2)(hb:base<=H)(hVp:∀q,V.ownBlock=some q->q≠pb)(hp:pb<H) :
  ∃g cap w',(Builtin.append_ #[27,27] ty #[V,.slice (some H) 1 1]).run prog w=.ok (.slice (some ⟨g,0,none⟩) (l.length+1) cap) w'/\V7 base V l H (g,cap) w'/\JP w0 base pb V l oldA H (off r 7) w'/\RP base pb V l H oldA 7 w w':=by
 obtain⟨i0,a7,a8,aa,ab⟩:=Jb;obtain⟨hB,hs⟩:=h.buf h6 h7
 obtain⟨g,cap,w',a1,ac,hg,ad,ae⟩:=run_append_lies (P:=prog) w 27 ty base 43 i0 _ 21 256 underlying27 a7 a8 aa ab rfl (by decide) V l.length (l.flatMap stC) (h.row h7) ⟨H,0,none⟩ 1 1 zSt.toList rfl
  (fun j u hj=>by rw[Addr.add_mk,Nat.zero_add,hB.cell,<-Array.getElem?_toList];exact hj) Ajo (by decide) (by unfold maxLen;omega) (by omega) (by omega) _ rfl
 have hE:Ext V.ownBlock.toList w w':=(jF _ w).grown hg fun q hq=>.inl (jC.2 hq)
 have a2:pb∉V.ownBlock.toList:=fun hm=>hVp _ (jC.1 hm) rfl
 have e7:off r 7 7=false:=by unfold off;simp
 have a6:off r 7 12=r 12:=by unfold off;simp
 have e6:off r 7 6=r 6:=by unfold off;simp
 refine⟨g,cap,w',a1,⟨ad.imp id fun e=>by omega,_,by rw[Ahu];exact ac⟩,⟨h.ext.step hE fun x hx=>.inl (jI _ hx),fun e=>(by rw[e7] at e;cases e),fun e=>(h.blk (a6 ▸ e)).ext hE a2,fun e=>(by rw[e6,h6] at e;cases e),fun _ e=>(by rw[e7] at e;cases e),by have:=hE.size;omega⟩,?_⟩
 unfold RP;rw[ijp rfl];exact h.blk h12
theorem JP.lay (h:JP w0 base pb V l oldA H r w)(h7:r 7=false)(h6:r 6=false)(hu:V7 base V l H u w)(s:St)(hV:∀q,V.ownBlock=some q->q≠pb)(hp:pb<H)(hw0:w0.heap.size<=H) :
  ∃C,Blk w u.1 43 C/\l.length*21+21<=C.size/\JP w0 base pb V l oldA H (off r 9) (w.setCells u.1 (l.length*21) (stC s))/\RP base pb V l H oldA 9 w (w.setCells u.1 (l.length*21) (stC s)):=by
 obtain⟨a2,s',hs⟩:=hu
 have hx:(l.flatMap stC).length=l.length*21:=by
  have:=hs.1;rw[jG,Cr,Nat.succ_mul] at this;omega
 obtain⟨-,a8,hB,aa⟩:=Zp hs hx (Cr s);have hE:Ext [u.1] w (w.setCells u.1 (l.length*21) (stC s)):=Ext.many (.inl (by simp)) _ _ _ (jF _ _)
 have ab:u.1≠pb:=by
  rcases a2 with e|e
  ·exact hV _ e
  ·omega
 have e7:off r 9 7=r 7:=by unfold off;simp
 have a7:off r 9 12=r 12:=by unfold off;simp
 have e6:off r 9 6=r 6:=by unfold off;simp
 refine⟨a8,hB,aa,⟨h.ext.step hE fun x hx=>?_,fun e=>(by rw[e7,h7] at e;cases e),fun e=>(h.blk (a7 ▸ e)).ext hE (by rw[jA];omega),fun e=>(by rw[e6,h6] at e;cases e),fun _ e=>(by rw[e7,h7] at e;cases e),nt h.big hE.size⟩,?_⟩
 ·rw[jA.1 hx];rcases a2 with e|e
  ·exact .inl (jI _ (jC.2 e))
  ·exact .inr (by omega)
 ·unfold RP;rw[ijn (by decide),ijp rfl];refine⟨fun v hv=>?_,fun A hA=>hA.ext hE (by rw[jA];omega)⟩
  obtain⟨a1,s2,a6⟩:=hv;refine⟨a1,?_⟩
  by_cases e:v.1=u.1
  ·obtain⟨h5,-⟩:=Zp a6 hx (Cr s);rw[<-e];exact⟨s,h5⟩
  ·exact⟨s2,Ah a6 hE fun q hq=>by cases hq;rw[jA];exact e⟩
theorem JP.ptr (h:JP w0 base pb V l oldA H r w)(h7:r 7=false)(h6:r 6=false)(h12:r 12=true)(hu:V7 base V l H u w)(y:Value)(newA:Array Value)(hn:oldA.setIfInBounds 3 y=newA) :
  Blk (w.setCell ⟨pb,3,none⟩ y) pb 188 newA/\V7 base V l H u (w.setCell ⟨pb,3,none⟩ y)/\JP w0 base pb V l oldA H (off r 12) (w.setCell ⟨pb,3,none⟩ y)/\RP base pb V l H oldA 12 w (w.setCell ⟨pb,3,none⟩ y):=by
 have hB:=h.blk h12;have hE:Ext [pb] w (w.setCell ⟨pb,3,none⟩ y):=jL (.inl (by simp)) (jF _ _);have e7:off r 12 7=r 7:=by unfold off;simp
 have a1:off r 12 12=false:=by unfold off;simp
 have e6:off r 12 6=r 6:=by unfold off;simp
 refine⟨hn ▸ hB.set_ 3 y,hu.farP hB hE,⟨h.ext.step hE fun x hx=>.inl (by rw[jA.1 hx];simp),fun e=>(by rw[e7,h7] at e;cases e),fun e=>(by rw[a1] at e;cases e),fun e=>(by rw[e6,h6] at e;cases e),fun _ e=>(by rw[e7,h7] at e;cases e),nt h.big hE.size⟩,?_⟩
 unfold RP;rw[ijn (by decide),ijn (by decide),ijp rfl];exact⟨hE,_,hB⟩
end
end
section
def Ahv (g:Nat)(bA:Option Addr)(nb bc n:Nat)(cnt:Int)(u:Nat×Nat):Array Value:=Db g bA nb bc (.slice (some u.1) (n+1) u.2) cnt
def sV7 (base:Nat)(V:Value)(l:List St)(H:Nat):Ba:=⟨Nat×Nat,(0,0),fun u=>.slice (some u.1) (l.length+1) u.2,V7 base V l H⟩
def Ab3 (base:Nat)(V:Value)(l:List St)(H pb g:Nat)(bA:Option Addr)(nb bc:Nat)(cnt:Int):Ba:=⟨Nat×Nat,(0,0),fun _=>undef,fun u w=>Blk w pb 188 (Ahv g bA nb bc l.length cnt u)/\V7 base V l H u w⟩
def sUn:Ba:=⟨Unit,(),fun _=>undef,fun _ _=>True⟩
def Aks (base:Nat)(V:Value)(l:List St)(H pb g:Nat)(bA:Option Addr)(nb bc:Nat)(cnt:Int):List (Nat×Ba):=[(6,Cx (.slice (some H) 1 1)),(7,sV7 base V l H),(9,sUn),(12,Ab3 base V l H pb g bA nb bc cnt)]
theorem rgP {id:Nat}{Q:Exit->Act->World->Prop}{a:Act}{w:World}{ls:List Oper}(base pb g nb bc:Nat)(bA VA:Option Addr)(vc:Nat)(l:List St)(cnt:Int)(h13:ls.length=13)(hG:∀i,i=6\/i=7\/i=12->∀oi,ls.toArray[i]? = some oi->oi.guard=none)
  (h1:w.ownsRow base 43 21 (.slice VA l.length vc) l.length (l.flatMap stC)) (h2:Blk w pb 188 (Db g bA nb bc (.slice VA l.length vc) cnt))
  (h:Bb prog ls.toArray 13 (JP w base pb (.slice VA l.length vc) l (Db g bA nb bc (.slice VA l.length vc) cnt) w.heap.size) (RP base pb (.slice VA l.length vc) l w.heap.size (Db g bA nb bc (.slice VA l.length vc) cnt)) (Bi (Aks base (.slice VA l.length vc) l w.heap.size pb g bA nb bc cnt)) (fun a w=>wpList prog ls.toArray Q (ls.drop 13) a w) 0 (ls.take 13) a (fun _ _=>True))
  (hm:(prog).follows .mixedOrders=true:=by kernel_rfl) (hB:Ir ls.toArray 13=true:=by kernel_rfl):(Code.region id ls.toArray true).wp prog Q a w:=by
 refine De 13 _ _ _ hm hB (fun i r w hi hg hJ=>?_) (fun i s j hk hj x w w' hR hV=>?_) (JP.start h1 h2 (by simp[h13])) h
 ·have a1:∀k,k=6\/k=7\/k=12->i≠k:=fun k hk e=>by
   subst e;rcases hi with hi|⟨oi,h3,h4⟩
   ·rcases hk with rfl|rfl|rfl<;>simp[Bi,Aks] at hi
   ·exact h4 (hG _ hk oi h3)
  exact hJ.pure (a1 6 (by simp)) (a1 7 (by simp)) (a1 12 (by simp))
 ·have hm:=Fx hk;simp only[Aks,jE,Prod.mk.injEq,jH,or_false] at hm;rcases hm with⟨rfl,rfl⟩|⟨rfl,rfl⟩|⟨rfl,rfl⟩|⟨rfl,rfl⟩
  ·exact hV
  ·exact V7.stays hj hR hV
  ·trivial
  ·obtain⟨hb,hv⟩:=hV;by_cases h7:j=7
   ·subst h7;unfold RP at hR;rw[ijp rfl] at hR;exfalso
    unfold Blk at hb hR;rw[hR] at hb;have e:=(Obj.cells.inj (Option.some.inj hb)).1;have e2:=congrArg (fun A:Array Value=>A[3]?) e;simp[Db,Ahv] at e2
   ·have hv':=V7.stays h7 hR hv;refine⟨?_,hv'⟩
    unfold RP at hR;rw[ijn h7] at hR;split at hR
    ·exact hR.2 _ hb
    ·exact hb.ext hR (by simp)
theorem Ahw {w:World}{B e s n c g:Nat}{xs ys:List Value}(h:w.ownsRow B e s (.slice (some g) (n+1) c) (n+1) (xs ++ ys))(hx:xs.length=n*s):w.ownsRow B e s (.slice (some g) n c) n xs:=by
 rcases h.2 with⟨h1,-⟩|⟨g',c',a1,hv,hb,hg,h1,h2,h3,h4⟩
 ·cases h1
 ·cases hv
  refine⟨hx,.inr ⟨g,c,a1,rfl,hb,hg,by omega,h2,h3,?_⟩⟩
  refine List.ext_getElem? fun i=>?_
  rw[List.getElem?_take];by_cases hi:i<n*s
  ·rw[ijp hi];have h6:=congrArg (fun l:List Value=>l[i]?) h4;simp only[List.getElem?_take] at h6;rw[ijp (by rw[Nat.succ_mul];omega),List.getElem?_append_left (by omega)] at h6;exact h6
  ·rw[ijn hi,List.getElem?_eq_none (by omega)]
section
variable {w w':World} {base g pb n bc:Nat} {bA VA:Option Addr} {bs:List Bf} {V:Value} {l:List St} {cnt:Int} {vc:Nat}
theorem Bld.vpb (h:Bld w base g pb n bA bc bs V l cnt):∀q,V.ownBlock=some q->q≠pb:=Bx h.row h.blk (by decide)
theorem Bld.vg (h:Bld w base g pb n bA bc bs V l cnt):∀q,V.ownBlock=some q->q≠g:=by
 obtain⟨C,hC⟩:=h.stm.blk;exact Bx h.row hC (by decide)
theorem Bld.parts' (h:Bld w base g pb n bA bc bs V l cnt)(hE:Ext (pb :: V.ownBlock.toList) w w'):Stm w' base g n/\w'.ownsRow base 45 4 (.slice bA bs.length bc) bs.length (bs.flatMap bfC):=by
 refine⟨h.stm.ext hE ?_ fun x hx=>?_,Ah h.buf hE fun q hq hm=>?_⟩
 ·intro hm;rcases jE.1 hm with e|e
  ·exact h.pg e.symm
  ·exact h.vg _ (jC.1 e) rfl
 ·rcases jE.1 hx with rfl|e
  ·exact h.bpb
  ·exact Ad h.row _ (jC.1 e)
 ·rcases jE.1 hm with e|e
  ·exact Bx h.buf h.blk (by decide) q hq e
  ·obtain⟨C,hC⟩:=Zo h.row (jC.1 e);exact Bx h.buf hC (by decide) q hq rfl
theorem Bld.push (h:Bld w base g pb n bA bc bs V l cnt)(hl:l.length<=2)(hE:Ext (pb :: V.ownBlock.toList) w w'){u:Nat×Nat}{H:Nat}(hB:Blk w' pb 188 (Ahv g bA bs.length bc l.length cnt u))(hv:V7 base V l H u w') :
  ∃s',Bld w' base g pb n bA bc bs (.slice (some u.1) (l.length+1) u.2) (l ++ [s']) cnt:=by
 obtain⟨h1,h2⟩:=h.parts' hE;obtain⟨-,s',hs⟩:=hv;refine⟨s',h1,hB,h.bpb,h2,?_,h.bne,h.b9,h.bsz,by simp;omega⟩
 rw[jG,List.flatMap_append];have e:List.flatMap stC [s']=stC s':=by simp
 rw[e];exact hs
theorem Bld.pop {s':St}{q c:Nat}(h:Bld w base g pb n bA bc bs (.slice (some q) (l.length+1) c) (l ++ [s']) cnt):Bld (w.setCell ⟨pb,3,none⟩ (.slice (some q) l.length c)) base g pb n bA bc bs (.slice (some q) l.length c) l cnt:=by
 have hE:Ext [pb] w (w.setCell ⟨pb,3,none⟩ (.slice (some q) l.length c)):=jL (.inl (by simp)) (jF _ _);obtain⟨h1,h2⟩:=h.parts' (hE.mono fun x hx=>.inl (by rw[jA.1 hx];simp));have hr:=h.row;rw[jG,List.flatMap_append] at hr
 have hx:(l.flatMap stC).length=l.length*21:=by
  have:=hr.1;rw[jG] at this;have e:(List.flatMap stC [s']).length=21:=by simp[Cr]
  rw[e,jS,Nat.succ_mul] at this;omega
 exact⟨h1,h.blk.set_' 3 _ _ rfl,h.bpb,h2,Ah (Ahw hr hx) hE fun k hk=>by rw[jA];exact h.vpb k hk,h.bne,h.b9,h.bsz,by have:=h.l3;simp at this;omega⟩
theorem Bld.cnt' (h:Bld w base g pb n bA bc bs V l cnt)(x:Int):Bld (w.setCell ⟨pb,4,none⟩ x) base g pb n bA bc bs V l x:=by
 have hE:Ext [pb] w (w.setCell ⟨pb,4,none⟩ x):=jL (.inl (by simp)) (jF _ _);obtain⟨h1,h2⟩:=h.parts' (hE.mono fun x hx=>.inl (by rw[jA.1 hx];simp));exact⟨h1,h.blk.set_' 4 _ _ rfl,h.bpb,h2,Ah h.row hE fun k hk=>by rw[jA];exact h.vpb k hk,h.bne,h.b9,h.bsz,h.l3⟩
end
end
section
def stZ0:St:=.mk ⟨0,⟨#[]⟩,0,0,0,false,none,0,[],none,0,0,Xf,Aji⟩ []
def stA (s:St):Array Value:=Ai s.h s.body.length s.h.val.h s.h.val.ks.length
theorem Rb (s:St):stV s=.agg (stA s):=by cases s;rfl
theorem Hh (s:St):stC s=(stA s).toList:=by cases s;rfl
theorem Rc (s:St):(stA s).all (·.oneCell')=true:=Cz ..
theorem Mk (s:St):(prog.info? 43).map (·.size)=some (stA s).size:=Dv
theorem Ahx (s:St):(stA s).size=21:=rfl
theorem La (s:St):∀u∈stC s,u.oneCell'=true:=fun u hu=>by
 have h:=Rc s;rw[Hh] at hu;rw[Array.all_eq_true_iff_forall_mem] at h;exact h u (Array.mem_toList_iff.1 hu)
theorem Mx (w:World)(s:St):(Instr.buildSlice 27 1 #[(0,stV s)]).run prog w=.ok (.slice (some w.heap.size) 1 1) (w.alloc (.cells (stA s) 43)):=by
 rw[Rb];exact Mf w s.h s.body.length s.h.val.h s.h.val.ks.length
def sSt (H:Nat):Ba:=⟨St,stZ0,stV,fun s w=>StA (fun b=>H<=b) 20 w s⟩
def Zq (H:Nat):Ba:=⟨Nat×St,(0,stZ0),fun u=>.slice (some u.1) 1 1,fun u w=>H<=u.1/\Blk w u.1 43 (stA u.2)/\StA (fun b=>H<=b) 20 w u.2⟩
section
variable {H g:Nat} (hg:g<H)
include hg
theorem sSt.stays:∀y w w',Ext [g] w w'->(sSt H).V y w->(sSt H).V y w':=fun y w w' hE h=>StA.ext hE (fun x hx=>by rw[jA.1 hx];omega) h
theorem Zq.stays:∀y w w',Ext [g] w w'->(Zq H).V y w->(Zq H).V y w':=fun y w w' hE h=>⟨h.1,h.2.1.ext hE (by rw[jA];have:=h.1;omega),StA.ext hE (fun x hx=>by rw[jA.1 hx];omega) h.2.2⟩
end
theorem Bld.one {w w':World}{base g pb n bc q:Nat}{bA:Option Addr}{bs:List Bf}{V:Value}{l:List St}{cnt:Int}{C:Array Value}(h:Bld w base g pb n bA bc bs V l cnt)(hE:Ext [q] w w')(hq:Blk w q 43 C)(hV:∀k,V.ownBlock=some k->k≠q)(hb:base<=q):Bld w' base g pb n bA bc bs V l cnt:=by
 obtain⟨D,hD⟩:=h.stm.blk;have h1:g≠q:=fun e=>by rw[e] at hD;exact absurd (hD.type hq) (by decide)
 have h2:pb≠q:=fun e=>by have hp:=h.blk;rw[e] at hp;exact absurd (hp.type hq) (by decide)
 exact⟨h.stm.ext hE (by rw[jA];exact h1) (fun x hx=>by rw[jA.1 hx];exact hb),h.blk.ext hE (by rw[jA];exact h2),h.bpb,Ah h.buf hE fun k hk=>by rw[jA];exact Bx h.buf hq (by decide) k hk,
  Ah h.row hE fun k hk=>by rw[jA];exact hV k hk,h.bne,h.b9,h.bsz,h.l3⟩
structure LoS (w:World)(T:List Nat)(H base g pb n:Nat)(bA:Option Addr)(bc:Nat)(bs:List Bf)(Vz:Value)(lz:List St)(cnt:Int)(rb eb:Nat)(zr:Array Value)(C:Value->Array Value)(v:Value)(ss:List St)(wx:World):Prop where
 ext:Ext T w wx
 bld:Bld wx base g pb n bA bc bs Vz lz cnt
 res:Blk wx rb 43 zr
 blk:Blk wx eb 43 (C v)
 own:wx.ownsRow H 43 21 v ss.length (ss.flatMap stC)
 kid:∀s∈ss,StA (fun b=>H<=b/\v.ownBlock≠some b) 20 wx s
 hz:∀q,Vz.ownBlock=some q->q<H/\q≠eb
 hb:∀q,(Value.slice bA bs.length bc).ownBlock=some q->q<w.heap.size
 tg:g∈T
 rb0:w.heap.size<=rb
 eb0:rb<eb
 ebH:eb<H
 g0:g<w.heap.size
 p0:pb<w.heap.size
 hH:H<=wx.heap.size
section
variable {w wx wy:World} {T:List Nat} {H base g pb n m bc:Nat} {bA:Option Addr} {bs:List Bf} {Vz:Value} {lz:List St} {cnt:Int} {rb eb:Nat} {zr:Array Value} {C:Value->Array Value} {v:Value} {ss:List St}
theorem LoS.draw (h:LoS w T H base g pb n bA bc bs Vz lz cnt rb eb zr C v ss wx)(hE:Ext [g] wx wy)(hS:Stm wy base g m):LoS w T H base g pb m bA bc bs Vz lz cnt rb eb zr C v ss wy:=by
 have h0:=h.g0;have h1:=h.rb0;have h2:=h.eb0;have h3:=h.ebH
 exact⟨h.ext.trans (hE.mono fun x hx=>.inl (by rw[jA.1 hx];exact h.tg)),h.bld.draw hE hS,h.res.ext hE (by rw[jA];omega),h.blk.ext hE (by rw[jA];omega),
  Ah h.own hE fun q hq=>by have:=Ad h.own q hq;rw[jA];omega,fun x hx=>StA.ext hE (fun y hy hh=>by rw[jA.1 hy] at hh;have:=hh.1;omega) (h.kid x hx),h.hz,h.hb,h.tg,h.rb0,h.eb0,h.ebH,h.g0,h.p0,nt h.hH hE.size⟩
theorem LoS.less (h:LoS w T H base g pb n bA bc bs Vz lz cnt rb eb zr C v ss wx)(hm:m<=n):LoS w T H base g pb m bA bc bs Vz lz cnt rb eb zr C v ss wx:=⟨h.ext,h.bld.less hm,h.res,h.blk,h.own,h.kid,h.hz,h.hb,h.tg,h.rb0,h.eb0,h.ebH,h.g0,h.p0,h.hH⟩
theorem LoS.bldx (h:LoS w T H base g pb n bA bc bs Vz lz cnt rb eb zr C v ss wx){S:List Nat}(hE:Ext S wx wy)(hS:∀q∈S,H<=q\/q=eb):Bld wy base g pb n bA bc bs Vz lz cnt/\Ext T w wy:=by
 have h0:=h.g0;have h1:=h.rb0;have h2:=h.eb0;have h3:=h.ebH;have hb:=h.bld.bpb;have hp:=h.p0;refine⟨?_,h.ext.step hE fun x hx=>.inr (by rcases hS x hx with e|e<;>omega)⟩
 refine⟨h.bld.stm.ext hE (fun hm=>by rcases hS _ hm with e|e<;>omega) (fun q hq=>by rcases hS _ hq with e|e<;>omega),h.bld.blk.ext hE (fun hm=>by rcases hS _ hm with e|e<;>omega),h.bld.bpb,Ah h.bld.buf hE fun q hq hm=>?_,Ah h.bld.row hE fun q hq hm=>?_,h.bld.bne,h.bld.b9,h.bld.bsz,h.bld.l3⟩
 ·rcases hS _ hm with e|e
  ·have:=h.hb q hq;omega
  ·exact Bx h.bld.buf h.blk (by decide) q hq e
 ·rcases hS _ hm with e|e
  ·have:=(h.hz q hq).1;omega
  ·exact(h.hz q hq).2 e
theorem LoS.more (h:LoS w T H base g pb n bA bc bs Vz lz cnt rb eb zr C v ss wx)(hE:Ext v.ownBlock.toList wx wy){g8 c8 k:Nat}{s:St}(hC:∀a b,(C a).setIfInBounds k b=C b)
  (hO:wy.ownsRow H 43 21 (.slice (some g8) (ss.length+1) c8) (ss.length+1) (ss.flatMap stC ++ stC s)) (hg8:v.ownBlock=some g8\/wx.heap.size<=g8) (hs:StA (fun b=>H<=b/\v.ownBlock≠some b) 20 wx s) :
  LoS w T H base g pb n bA bc bs Vz lz cnt rb eb zr C (.slice (some g8) (ss.length+1) c8) (ss ++ [s]) (wy.setCell ⟨eb,k,none⟩ (.slice (some g8) (ss.length+1) c8)):=by
 have a1:Ext [eb] wy (wy.setCell ⟨eb,k,none⟩ (.slice (some g8) (ss.length+1) c8)):=jL (.inl (by simp)) (jF _ _);have g0:=h.g0;have h1:=h.rb0;have h2:=h.eb0;have h3:=h.ebH;have hq:∀q∈v.ownBlock.toList,H<=q:=fun q hq=>Ad h.own q (jC.1 hq)
 have a8:H<=g8:=Ad hO g8 rfl;have a2:Ext (eb :: v.ownBlock.toList) wx (wy.setCell ⟨eb,k,none⟩ (.slice (some g8) (ss.length+1) c8)):=(hE.mono fun x hx=>.inl (jI _ hx)).trans (a1.mono fun x hx=>.inl (by rw[jA.1 hx];simp));have hb:Blk wy eb 43 (C v):=h.blk.ext hE fun hm=>by have:=hq _ hm;omega
 have step:∀z,StA (fun b=>H<=b/\v.ownBlock≠some b) 20 wx z->StA (fun b=>H<=b/\(Value.slice (some g8) (ss.length+1) c8).ownBlock≠some b) 20 (wy.setCell ⟨eb,k,none⟩ (.slice (some g8) (ss.length+1) c8)) z:=fun z hz=>by
  have z1:=StA.mono (Q:=fun b=>H<=b/\b≠g8/\v.ownBlock≠some b) (fun b hb hh=>⟨hh.1,(by rintro rfl;rcases hg8 with e|e;exact hh.2 e;omega),hh.2⟩) (jD _) hz;have z2:=StA.ext hE (fun y hy hh=>hh.2.2 (jC.1 hy)) z1;have z3:=StA.ext a1 (fun y hy hh=>by rw[jA.1 hy] at hh;have:=hh.1;omega) z2;exact StA.mono (fun b _ hh=>⟨hh.1,fun e=>by cases e;exact hh.2.1 rfl⟩) (jD _) z3
 obtain⟨a6,a7⟩:=h.bldx a2 fun q hqq=>by
  rcases jE.1 hqq with e|e
  ·exact .inr e
  ·exact .inl (hq q e)
 refine⟨a7,a6,(h.res.ext hE (fun hm=>by have:=hq _ hm;omega)).ext a1 (by rw[jA];omega),by have:=hb.set_ k (.slice (some g8) (ss.length+1) c8);rw[hC] at this;exact this,?_,fun x hx=>?_,h.hz,h.hb,h.tg,h.rb0,h.eb0,h.ebH,h.g0,h.p0,nt h.hH a2.size⟩
 ·rw[jG,List.flatMap_append];have e:List.flatMap stC [s]=stC s:=by simp
  rw[e];exact Ah hO a1 fun q hqq=>by have:=Ad hO q hqq;rw[jA];omega
 ·rcases jN.1 hx with hx|hx
  ·exact step x (h.kid x hx)
  ·rw[jA.1 hx];exact step s hs
theorem LoS.put (h:LoS w T H base g pb n bA bc bs Vz lz cnt rb eb zr C v ss wx){C':Value->Array Value}(k:Nat)(u:Value)(hC:(C v).setIfInBounds k u=C' v):LoS w T H base g pb n bA bc bs Vz lz cnt rb eb zr C' v ss (wx.setCell ⟨eb,k,none⟩ u):=by
 have hE:Ext [eb] wx (wx.setCell ⟨eb,k,none⟩ u):=jL (.inl (by simp)) (jF _ _);have g0:=h.g0;have h1:=h.rb0;have h2:=h.eb0;have h3:=h.ebH;obtain⟨a1,a2⟩:=h.bldx hE fun q hqq=>.inr (jA.1 hqq)
 exact⟨a2,a1,h.res.ext hE (by rw[jA];omega),hC ▸ h.blk.set_ k u,Ah h.own hE fun q hqq=>by have:=Ad h.own q hqq;rw[jA];omega,
  fun x hx=>StA.ext hE (fun y hy hh=>by rw[jA.1 hy] at hh;have:=hh.1;omega) (h.kid x hx),h.hz,h.hb,h.tg,h.rb0,h.eb0,h.ebH,h.g0,h.p0,nt h.hH hE.size⟩
theorem LoS.body (h:LoS w T H base g pb n bA bc bs Vz lz cnt rb eb zr C v ss wx)(hl:ss.length<=20){A:Option Addr}{n0 c:Nat}(hv:v=.slice A n0 c):n0=ss.length/\Ao (fun b=>H<=b) 20 wx A 21 stC ss/\∀s∈ss,StA (fun b=>H<=b) 20 wx s:=by
 subst hv;have hO:=h.own;obtain⟨A',c',e,-,-⟩:=Bg hO;cases e
 exact⟨rfl,(Ao.own (P:=fun b=>H<=b) Cr hO hl (by decide) (fun q _ h1 _=>h1)).2,fun s hs=>StA.mono (fun b _ hb=>hb.1) (jD _) (h.kid s hs)⟩
end
end
end Go.Proofs.YtfppibmloloakaaGreatDoor
