import Derived.Test.YtfppibmloloakaaGreatDoorP43
namespace Go.Proofs.YtfppibmloloakaaGreatDoor
open Go.RowKit Go.Proofs.Tryz
set_option linter.all false
section
attribute [local irreducible] relAt
theorem ExA.past {w w':World}{H K N rb:Nat}{x:Ex}(h:ExA (fun b=>K<=b) N w x)(hE:Ext [rb] w w')(hr:rb<K)(hH:H<=K):ExA (fun b=>H<=b) N w' x:=
 ExA.mono (fun b _ hb=>by omega) (Nat.le_refl _) (ExA.ext hE (fun y hy=>by rw[List.mem_singleton.1 hy];omega) h)
theorem exp_done {w w4 w5:World}{base g n K rb N:Nat}{x:Ex}(hx:ExA (fun b=>K<=b) 10 w4 x)(hp:parts x<=N)(hE4:Ext [g] w w4)(hS4:Stm w4 base g n)(hE5:Ext [rb] w4 w5)(hrb:w.heap.size<=rb)(hrK:rb<K)(hg:g<w.heap.size)(hb:base<=w.heap.size) :
  ExP base g n N w (.returned (exV x)) w5:=
 ⟨x,rfl,hx.past hE5 hrK (by omega),hp,hE4.step hE5 fun y hy=>.inr (by rw[List.mem_singleton.1 hy];exact hrb),hS4.ext hE5 (by rw[List.mem_singleton];omega) (fun y hy=>by rw[List.mem_singleton.1 hy];omega)⟩
theorem Bld.bufC {w:World}{base g pb n bc:Nat}{bA:Option Addr}{bs:List Bf}{V:Value}{l:List St}{cnt:Int}(h:Bld w base g pb n bA bc bs V l cnt){buf:Nat}(hb:buf<bs.length) :
  ∃q sz,bA=some ⟨q,0,none⟩/\1<=sz/\sz<=1000/\∀W,Ext [g] w W->W.cell? ⟨q,buf*4+1,none⟩=some (.int .i64 sz)/\q<W.heap.size:=by
 obtain⟨q,bf,rfl,hq,hx,hc⟩:=h.bufAt hb;obtain⟨C,hC⟩:=h.stm.blk;have hz:=h.bsz bf (List.mem_of_getElem? hx);refine⟨q,bf.size,rfl,hz.1,hz.2,fun W hW=>⟨hW.held (hc 1 _ rfl) ?_,Nat.lt_of_lt_of_le hq hW.size⟩⟩
 rw[List.mem_singleton];exact own_apart h.buf hC (by decide) q rfl
def sIn (lo hi:Int):Spec:=⟨Int,lo,Value.int .i64,fun r _=>lo<=r/\r<=hi⟩
theorem sIn.stays {lo hi:Int}{R:World->World->Prop}:∀y w w',R w w'->(sIn lo hi).V y w->(sIn lo hi).V y w':=fun _ _ _ _ h=>h
theorem exec_built {P:Program}{o:Oper}{a:Act}{w:World}(t:TypeId)(parts:Array (Nat×Operand))(ho:o.op=.build t parts)(cells:Array Value)(hc:P.built t (parts.map fun(i,x)=>(i,a.eval x)).toList=some cells):(execOp a.eval o).run P w=.ok (.value (.agg cells)) w:=by
 unfold execOp;simp only[ho,Sem.run_bind,run_build w t _ cells hc,Result.andThen_ok];rfl
theorem exInfo:∃i,Tryz.prog.info? 41=some i/\i.zero=some (.agg zEx)/\i.size=10/\i.bytes=112:=info_parts (show((Tryz.prog).info? 41).map (fun i=>(i.zero,i.size,i.bytes))=some (some (.agg zEx),10,112) by kernel_rfl)
theorem ex1_slice (w:World)(x:Ex):(Instr.buildSlice 39 1 #[(0,exV x)]).run Tryz.prog w=.ok (.slice (some ⟨w.heap.size,0,none⟩) 1 1) (w.alloc (.cells (exArr x) 41)):=by
 rw[exV_arr];obtain⟨i0,hi0,hz0,hz1,hz2⟩:=exInfo;refine run_buildSlice w _ _ 1 _ _ i0 _ Tryz.underlying39 hi0 hz0 (by rw[hz1];decide) (by rw[hz1];decide) ?_
 rw[hz1];have hz:((Array.range (1*10)).map (fun x=>(Value.agg zEx).cells[x % (Value.agg zEx).cells.size]!))=zEx:=by kernel_rfl
 rw[hz];simp[Instr.fill,exArr,zEx,Value.cells]
theorem seqA_one {w:World}{P:Nat->Prop}{N kb:Nat}{x:Ex}(hB:Blk w kb 41 (exArr x))(hP:P kb)(hN:1<=N):SeqA P N w (some ⟨kb,0,none⟩) 10 exC [x]:=by
 refine⟨hN,.inr ⟨kb,rfl,hP,hB.lt,fun i y hy j v hv=>?_⟩⟩
 cases i with
 | zero=>
  cases hy
  rw[Nat.zero_mul,Nat.zero_add,hB.cell,<-Array.getElem?_toList,<-exC_arr];exact hv
 | succ i=>simp at hy
structure OpS (w:World)(H base g pb n:Nat)(bA:Option Addr)(bc:Nat)(bs:List Bf)(V:Value)(l:List St)(cnt:Int)(rb eb:Nat)(op lo hi k:Int)(v:Value)(ks:List Ex)(N:Nat)(wx:World):Prop where
 ext:Ext [g] w wx
 bld:Bld wx base g pb n bA bc bs V l cnt
 res:Blk wx rb 41 zEx
 blk:Blk wx eb 41 #[.int .i64 5,.int .i64 op,.int .i64 lo,.int .i64 hi,.int .i64 k,.int .i64 0,.int .i64 0,.int .i64 0,.slice none 0 0,v]
 own:wx.ownsRow H 41 10 v ks.length (ks.flatMap exC)
 kid:∀x∈ks,ExA (fun b=>H<=b/\v.ownBlock≠some b) 10 wx x/\parts x<=N
 rb0:w.heap.size<=rb
 eb0:rb<eb
 ebH:eb<H
 g0:g<w.heap.size
 hH:H<=wx.heap.size
section
variable {w wx wy:World} {H base g pb n m bc:Nat} {bA:Option Addr} {bs:List Bf} {V:Value} {l:List St} {cnt:Int} {rb eb N:Nat} {op lo hi k:Int} {v:Value} {ks:List Ex}
theorem OpS.draw (h:OpS w H base g pb n bA bc bs V l cnt rb eb op lo hi k v ks N wx)(hE:Ext [g] wx wy)(hS:Stm wy base g m):OpS w H base g pb m bA bc bs V l cnt rb eb op lo hi k v ks N wy:=by
 have h0:=h.g0;have h1:=h.rb0;have h2:=h.eb0;have h3:=h.ebH
 exact⟨h.ext.trans hE,h.bld.draw hE hS,h.res.ext hE (by rw[List.mem_singleton];omega),h.blk.ext hE (by rw[List.mem_singleton];omega),
  own_ext h.own hE fun q hq=>by have:=own_base h.own q hq;rw[List.mem_singleton];omega,fun x hx=>⟨ExA.ext hE (fun y hy hh=>by rw[List.mem_singleton.1 hy] at hh;have:=hh.1;omega) (h.kid x hx).1,(h.kid x hx).2⟩,h.rb0,h.eb0,h.ebH,h.g0,Nat.le_trans h.hH hE.size⟩
theorem OpS.less (h:OpS w H base g pb n bA bc bs V l cnt rb eb op lo hi k v ks N wx)(hm:m<=n):OpS w H base g pb m bA bc bs V l cnt rb eb op lo hi k v ks N wx:=⟨h.ext,h.bld.less hm,h.res,h.blk,h.own,h.kid,h.rb0,h.eb0,h.ebH,h.g0,h.hH⟩
theorem OpS.set (h:OpS w H base g pb n bA bc bs V l cnt rb eb op lo hi k v ks N wx)(h0:Bld w base g pb m bA bc bs V l cnt)(i:Nat)(u:Value){lo' hi' k':Int}
  (hu:(#[Value.int .i64 5,.int .i64 op,.int .i64 lo,.int .i64 hi,.int .i64 k,.int .i64 0,.int .i64 0,.int .i64 0,.slice none 0 0,v]:Array Value).setIfInBounds i u=#[.int .i64 5,.int .i64 op,.int .i64 lo',.int .i64 hi',.int .i64 k',.int .i64 0,.int .i64 0,.int .i64 0,.slice none 0 0,v]):OpS w H base g pb n bA bc bs V l cnt rb eb op lo' hi' k' v ks N (wx.setCell ⟨eb,i,none⟩ u):=by
 have hE:Ext [eb] wx (wx.setCell ⟨eb,i,none⟩ u):=Ext.setAt (.inl (by simp)) (Ext.refl _ _);have g0:=h.g0;have h1:=h.rb0;have h2:=h.eb0;have h3:=h.ebH;have hB:Blk (wx.setCell ⟨eb,i,none⟩ u) eb 41 _:=h.blk.set_ i u;rw[hu] at hB
 exact⟨h.ext.step hE fun y hy=>.inr (by rw[List.mem_singleton.1 hy];omega),h.bld.far hE h0 (fun y hy=>by rw[List.mem_singleton.1 hy];omega),h.res.ext hE (by rw[List.mem_singleton];omega),hB,
  own_ext h.own hE fun q hq=>by have:=own_base h.own q hq;rw[List.mem_singleton];omega,fun x hx=>⟨ExA.ext hE (fun y hy hh=>by rw[List.mem_singleton.1 hy] at hh;have:=hh.1;omega) (h.kid x hx).1,(h.kid x hx).2⟩,h.rb0,h.eb0,h.ebH,h.g0,Nat.le_trans h.hH hE.size⟩
theorem OpS.more (h:OpS w H base g pb n bA bc bs V l cnt rb eb op lo hi k v ks N wx)(h0:Bld w base g pb m bA bc bs V l cnt)(hE:Ext v.ownBlock.toList wx wy){g8 c8:Nat}{y:Ex}
  (hO:wy.ownsRow H 41 10 (.slice (some ⟨g8,0,none⟩) (ks.length+1) c8) (ks.length+1) (ks.flatMap exC ++ exC y)) (hg8:v.ownBlock=some g8\/wx.heap.size<=g8) (hy:ExA (fun b=>H<=b/\v.ownBlock≠some b) 10 wx y) (hp:parts y<=N) :
  OpS w H base g pb n bA bc bs V l cnt rb eb op lo hi k (.slice (some ⟨g8,0,none⟩) (ks.length+1) c8) (ks ++ [y]) N (wy.setCell ⟨eb,9,none⟩ (.slice (some ⟨g8,0,none⟩) (ks.length+1) c8)):=by
 have hE2:Ext [eb] wy (wy.setCell ⟨eb,9,none⟩ (.slice (some ⟨g8,0,none⟩) (ks.length+1) c8)):=Ext.setAt (.inl (by simp)) (Ext.refl _ _);have g0:=h.g0;have h1:=h.rb0;have h2:=h.eb0;have h3:=h.ebH;have hq:∀q∈v.ownBlock.toList,H<=q:=fun q hq=>own_base h.own q (Option.mem_toList.1 hq)
 have hq8:H<=g8:=own_base hO g8 rfl;have hb:Blk wy eb 41 _:=h.blk.ext hE fun hm=>by have:=hq _ hm;omega
 have step:∀z,ExA (fun b=>H<=b/\v.ownBlock≠some b) 10 wx z->ExA (fun b=>H<=b/\(Value.slice (some ⟨g8,0,none⟩) (ks.length+1) c8).ownBlock≠some b) 10 (wy.setCell ⟨eb,9,none⟩ (.slice (some ⟨g8,0,none⟩) (ks.length+1) c8)) z:=fun z hz=>by
  have z1:=ExA.mono (Q:=fun b=>H<=b/\b≠g8/\v.ownBlock≠some b) (fun b hb hh=>⟨hh.1,(by rintro rfl;rcases hg8 with e|e;exact hh.2 e;omega),hh.2⟩) (Nat.le_refl _) hz;have z2:=ExA.ext hE (fun y hy hh=>hh.2.2 (Option.mem_toList.1 hy)) z1;have z3:=ExA.ext hE2 (fun y hy hh=>by rw[List.mem_singleton.1 hy] at hh;have:=hh.1;omega) z2;exact ExA.mono (fun b _ hh=>⟨hh.1,fun e=>by cases e;exact hh.2.1 rfl⟩) (Nat.le_refl _) z3
 refine⟨(h.ext.step hE fun q hqq=>.inr (by have:=hq q hqq;omega)).step hE2 fun y hy=>.inr (by rw[List.mem_singleton.1 hy];omega),(h.bld.far hE h0 (fun q hqq=>by have:=hq q hqq;omega)).far hE2 h0 (fun y hy=>by rw[List.mem_singleton.1 hy];omega),
  (h.res.ext hE (fun hm=>by have:=hq _ hm;omega)).ext hE2 (by rw[List.mem_singleton];omega),hb.set_' 9 _ _ rfl,?_,fun x hx=>?_,h.rb0,h.eb0,h.ebH,h.g0,Nat.le_trans h.hH (Nat.le_trans hE.size hE2.size)⟩
 ·rw[List.length_append,List.flatMap_append];have e:List.flatMap exC [y]=exC y:=by simp
  rw[e];exact own_ext hO hE2 fun q hqq=>by have:=own_base hO q hqq;rw[List.mem_singleton];omega
 ·rcases List.mem_append.1 hx with hx|hx
  ·exact⟨step x (h.kid x hx).1,(h.kid x hx).2⟩
  ·rw[List.mem_singleton.1 hx];exact⟨step y hy,hp⟩
end
theorem exC_len (x:Ex):(exC x).length=10:=by cases x;rfl
theorem exC_one (x:Ex):∀u∈exC x,u.oneCell'=true:=fun u hu=>by
 have h:=exArr_one x;rw[exC_arr] at hu;rw[Array.all_eq_true_iff_forall_mem] at h;exact h u (Array.mem_toList_iff.1 hu)
theorem partsL_few {N:Nat}:∀{ks:List Ex},(∀x∈ks,parts x<=N)->partsL ks<=ks.length*N
 | [],_=>by simp[partsL]
 | x :: r,h=>by
  have h1:=h x (List.mem_cons_self ..);have h2:=partsL_few fun y hy=>h y (List.mem_cons_of_mem _ hy)
  rw[partsL,List.length_cons,Nat.succ_mul];omega
def KD (d:Nat):Nat:=1000*100 ^ d
theorem KD_succ (d:Nat):KD (d+1)=100*KD d:=by unfold KD;rw[Nat.pow_succ];omega
theorem KD_pos (d:Nat):1000<=KD d:=by unfold KD;have:=Nat.one_le_pow d 100 (by omega);omega
def GexC (d:Nat):Prop:=∀(base g pb n bc:Nat) (bA:Option Addr) (bs:List Bf) (V:Value) (l:List St) (cnt:Int) (w:World),Bld w base g pb (n+KD d) bA bc bs V l cnt->Calls Tryz.prog 197 #[.pointer (some ⟨pb,0,none⟩),.int .i64 d] w (ExP base g n (4 ^ d) w)
set_option maxHeartbeats 16000000 in
set_option maxRecDepth 100000 in
theorem gexpr_step (d:Nat)(hd3:d<=1000)(IH:∀e,e+1=d->GexC e):GexC d:=by
 intro base g pb n bc bA bs V l cnt w h;have HD:=hd h;have HIH:=hd IH;have HKD:=hd (KD_pos d);have HB9:=hd (And.intro h.bne h.b9);have HBZ:=hd h.bsz;have HBB:Hd (base<=w.heap.size):=hd (by have:=h.bpb;have:=h.blk.lt;omega);clear h IH;go_enter Tryz.func197,Tryz.ntmps197
 go_upto_region 1 with fail
 have HE1:=hd ((Ext.refl [g] w).alloc (.cells zEx 41));have HR1:=hd (Blk.new w 41 zEx);have HD1:=hd (HD.o.grow ((Ext.refl [] w).alloc (.cells zEx 41)));unfold zEx at HE1 HR1 HD1;generalize World.alloc w _=w1 at *;change Hd (Blk w1 w.heap.size 41 zEx) at HR1;generalize hrb:w.heap.size=rb at *;have HRB:=hd hrb;have HGB:Hd (g<rb):=hd (by rw[<-hrb];exact HD.o.stm.lt);clear hrb;refine rgC 11 1 base g (n+KD d-20) [(10,sBelow bs.length)] (Stays.cons sBelow.stays Stays.nil) (HD1.o.stm.less (by have:=HKD.o;omega)) ?_
 simp only[List.take_succ_cons,List.take_zero,List.drop_succ_cons,List.drop_zero]
 repeat
  refine relAt_det rfl rfl ?_
  apply Exists.intro
  refine⟨fun wr nr hJ=>?_,?_⟩
  ·have hB:=HD1.o.draw hJ.1 hJ.2;have qp:=hB.blk.cell;have qpl:=hB.blk.lt;unfold bldA at qp;clear hB;clear hJ;(go_simp;try go_bits)
   first|rfl|exact⟨rfl,rfl⟩
  simp only[Act.put,List.setIfInBounds_toArray,List.set_cons_succ,List.set_cons_zero]
 refine rel_callC (sBelow bs.length) rfl rfl ?_ ?_
 ·apply Exists.intro
  apply Exists.intro
  refine⟨fun wr=>?_,fun wr m hE hS hm hf=>?_⟩
  ·go_simp
   first|exact⟨rfl,rfl⟩|rfl
  ·refine(next_any base g m (bs.length:Int) wr hS (by have:=HB9.o.2;omega)).mono ?_
   rintro e w' ⟨r,rfl,hr,hE',hS'⟩;exact⟨r,rfl,⟨hr.1,hr.2 (by have:=HB9.o.1;omega)⟩,hE',hS'⟩
 intro (buf0:Int);simp only[Act.put,List.setIfInBounds_toArray,List.set_cons_succ,List.set_cons_zero];refine relAt_nil (fun w2 hJ hF=>?_)
 have hb0:0<=buf0/\buf0<bs.length:=hF 10;obtain⟨buf,rfl⟩:∃b:Nat,buf0=b:=⟨buf0.toNat,by omega⟩;have HBF:Hd (buf<bs.length):=hd (by omega);have HD2:=hd (HD1.o.draw hJ.1 hJ.2);have HE2:=hd (HE1.o.trans hJ.1);have HR2:=hd (HR1.o.ext hJ.1 (by rw[List.mem_singleton];have:=HGB.o;omega));clear hJ hF hb0 HD1 HE1 HR1;dsimp only[sBelow];have qp:=HD2.o.blk.cell;have qpl:=HD2.o.blk.lt;unfold bldA at qp;go_upto_region 3 with(go_at_call 9;refine(next_any base g (n+KD d-21) 8 w2 (HD2.o.stm.less (by have:=HKD.o;omega)) (by omega)).mono ?_;rintro e w3 ⟨k,rfl,hk,hE,hS⟩)
 have HD3:=hd (HD2.o.draw hE hS);have HE3:=hd (HE2.o.trans hE);have HR3:=hd (HR2.o.ext hE (by rw[List.mem_singleton];have:=HGB.o;omega));clear hE hS HD2 HE2 HR2 qp qpl hk;go_cut [25] (fun s wx=>s=.bool (decide (k<2\/d=0))/\wx=w3)
 case first=>
  go_wp2_with fail
  all_goals
   go_meet
   refine⟨congrArg Value.bool ?_,rfl⟩
   first|exact decide_eq_decide.2 (by omega)|exact(decide_eq_true (by omega)).symm|(rw[Bool.eq_iff_iff];simp only[Bool.or_eq_true,decide_eq_true_eq,beq_iff_eq];omega)|(simp_all;done)|(simp_all;omega)
 case rest=>
  obtain⟨rfl,rfl⟩:=hcut;have hrw:=HR3.o.lt;by_cases hq:k<2\/d=0
  ·skip
   rw[decide_eq_true hq];go_wp2_with fail
   refine(ginside_any base g pb n bc buf bA bs V l cnt _ (HD3.o.less (by have:=HKD.o;omega)) HBF.o).mono ?_
   rintro e w4 ⟨a,rfl,ha,hE,hS⟩;have HA4:=hd ha;have HE4:=hd (HE3.o.trans hE);have HS4:=hd hS;have HR4:=hd (HR3.o.ext hE (by rw[List.mem_singleton];have:=HGB.o;omega));clear hE hS ha;unfold afV
   go_wp2_with (first
    | (refine wpList_built rfl 41 _ rfl (exHA (exLd buf a) 0) ?cc ?_;case cc=>refine Eq.trans (congrArg (Tryz.prog.built 41) (?_:_=[(0,Value.int .i64 3),(6,.int .i64 buf),(7,.agg #[.int .i64 a.base,.slice a.A a.ts.length a.cap])])) (exLd_built buf a);simp[Act.eval])
    | (
      refine wpList_store_wide rfl 41 _ _ rfl rb (exHA (exLd buf a) 0) zEx 41 rfl rfl HR4.o infoEx rfl (exHA_one _ _) ?_
      intro w5 hB5 hE5;have HB5:=hd hB5;have HE5:=hd hE5;clear hB5 hE5))
   exact bodyPost_ret (results_cell_row rfl _ _ rb 41 _ (0,0) _ rfl HB5.o Tryz.underlying41 rfl (by kernel_rfl)) rfl (exp_done (x:=.mk (exLd buf a) []) (K:=wc.heap.size) (rb:=rb) (.mk _ _ (SeqA.mono HA4.o (fun b _ hb=>hb) (by omega)) (SeqA.nil ..) (by simp)) (by simp[parts,partsL];exact Nat.one_le_pow _ _ (by omega)) HE4.o HS4.o HE5.o (Nat.le_of_eq HRB.o) hrw (by rw[HRB.o];exact HGB.o) (by rw[HRB.o];exact HBB.o))
  ·have hd0:d≠0:=by omega
   rw[decide_eq_false hq];obtain⟨d',hd'⟩:∃d',d'+1=d:=⟨d-1,by omega⟩;have HDD:=hd hd';have HI:=hd (HIH.o d' hd');have HKK:Hd (KD d=100*KD d'):=hd (by rw[<-hd'];exact KD_succ d');have HK1:=hd (KD_pos d');clear hd';by_cases hk2:k=2
   ·subst hk2;have qp:=HD3.o.blk.cell;have qpl:=HD3.o.blk.lt;unfold bldA at qp;go_wp2_with fail
    refine(word_any base g n _ (HD3.o.stm.less (by have:=HKD.o;omega))).mono ?_
    rintro e w4 ⟨r,rfl,_,hE,hS⟩;have HE4:=hd (HE3.o.trans hE);have HS4:=hd hS;have HR4:=hd (HR3.o.ext hE (by rw[List.mem_singleton];have:=HGB.o;omega));clear hE hS qp qpl
    go_wp2_with (first
     | (refine wpList_built rfl 41 _ rfl (exHA (exNm r) 0) ?cc ?_;case cc=>refine Eq.trans (congrArg (Tryz.prog.built 41) (?_:_=[(0,Value.int .i64 1),(4,.int .i64 r)])) (exNm_built r);simp[Act.eval])
     | (
       refine wpList_store_wide rfl 41 _ _ rfl rb (exHA (exNm r) 0) zEx 41 rfl rfl HR4.o infoEx rfl (exHA_one _ _) ?_
       intro w5 hB5 hE5;have HB5:=hd hB5;have HE5:=hd hE5;clear hB5 hE5))
    exact bodyPost_ret (results_cell_row rfl _ _ rb 41 _ (0,0) _ rfl HB5.o Tryz.underlying41 rfl (by kernel_rfl)) rfl (exp_done (x:=.mk (exNm r) []) (K:=wc.heap.size) (rb:=rb) (.mk _ _ (afA_nil ..) (SeqA.nil ..) (by simp)) (by simp[parts,partsL];exact Nat.one_le_pow _ _ (by omega)) HE4.o HS4.o HE5.o (Nat.le_of_eq HRB.o) hrw (by rw[HRB.o];exact HGB.o) (by rw[HRB.o];exact HBB.o))
   ·by_cases hk3:k=3
    ·subst hk3;go_wp2_with fail
     refine(gaffine_any base g pb n bc bA bs V l cnt 9 _ (HD3.o.less (by have:=HKD.o;omega)) (by omega)).mono ?_
     rintro e w4 ⟨a,rfl,ha,hE,hS⟩;have HA4:=hd ha;have HE4:=hd (HE3.o.trans hE);have HS4:=hd hS;have HR4:=hd (HR3.o.ext hE (by rw[List.mem_singleton];have:=HGB.o;omega));clear hE hS ha;unfold afV
     go_wp2_with (first
      | (refine wpList_built rfl 41 _ rfl (exHA (exVr a) 0) ?cc ?_;case cc=>refine Eq.trans (congrArg (Tryz.prog.built 41) (?_:_=[(0,Value.int .i64 2),(7,.agg #[.int .i64 a.base,.slice a.A a.ts.length a.cap])])) (exVr_built a);simp[Act.eval])
      | (
        refine wpList_store_wide rfl 41 _ _ rfl rb (exHA (exVr a) 0) zEx 41 rfl rfl HR4.o infoEx rfl (exHA_one _ _) ?_
        intro w5 hB5 hE5;have HB5:=hd hB5;have HE5:=hd hE5;clear hB5 hE5))
     exact bodyPost_ret (results_cell_row rfl _ _ rb 41 _ (0,0) _ rfl HB5.o Tryz.underlying41 rfl (by kernel_rfl)) rfl (exp_done (x:=.mk (exVr a) []) (K:=wc.heap.size) (rb:=rb) (.mk _ _ (SeqA.mono HA4.o (fun b _ hb=>hb) (by omega)) (SeqA.nil ..) (by simp)) (by simp[parts,partsL];exact Nat.one_le_pow _ _ (by omega)) HE4.o HS4.o HE5.o (Nat.le_of_eq HRB.o) hrw (by rw[HRB.o];exact HGB.o) (by rw[HRB.o];exact HBB.o))
    ·by_cases hk4:k=4
     ·subst hk4;obtain⟨q,sz,rfl,hz1,hz2,hcell⟩:=HD3.o.bufC HBF.o;have HCL:=hd hcell;have HZ:=hd (And.intro hz1 hz2);clear hcell hz1 hz2;obtain⟨mn,hmn⟩:∃m:Int,min 3 sz=m:=⟨_,rfl⟩;have HMN:Hd (1<=mn/\mn<=3):=hd (by have:=HZ.o;omega);have hbfi:(buf:Int)<(bs.length:Int):=by have:=HBF.o;omega
      go_upto_region 10 with fail
      refine rgC 15 1 base g (n+KD d-60) [(14,sIn 1 3)] (Stays.cons sIn.stays Stays.nil) (HD3.o.stm.less (by have:=HKD.o;omega)) ?_
      simp only[List.take_succ_cons,List.take_zero,List.drop_succ_cons,List.drop_zero]
      repeat
       refine relAt_det rfl rfl ?_
       apply Exists.intro
       refine⟨fun wr nr hJ=>?_,?_⟩
       ·have hB:=HD3.o.draw hJ.1 hJ.2;have qp:=hB.blk.cell;have qpl:=hB.blk.lt;have qc:=(HCL.o wr hJ.1).1;have qcl:=(HCL.o wr hJ.1).2;unfold bldA at qp;clear hB;clear hJ;(go_simp;try go_bits)
        first|rfl|exact⟨rfl,rfl⟩
       simp only[Act.put,List.setIfInBounds_toArray,List.set_cons_succ,List.set_cons_zero]
      refine rel_callC (sIn 1 3) rfl rfl ?_ ?_
      ·apply Exists.intro
       apply Exists.intro
       refine⟨fun wr=>?_,fun wr m hE hS hm hf=>?_⟩
       ·go_simp
        first|exact⟨rfl,rfl⟩|rfl
       ·refine(range_any base g m 1 mn wr hS (by omega) (by have:=HMN.o;omega)).mono ?_
        rintro e w' ⟨r,rfl,hr,hE',hS'⟩;exact⟨r,rfl,⟨hr.1,by have:=HMN.o;omega⟩,hE',hS'⟩
      intro (m:Int);simp only[Act.put,List.setIfInBounds_toArray,List.set_cons_succ,List.set_cons_zero];refine relAt_nil (fun w4 hJ hF=>?_)
      have hm13:1<=m/\m<=3:=hF 14;have HM:=hd hm13;have HD4:=hd (HD3.o.draw hJ.1 hJ.2);have HE4:=hd (HE3.o.trans hJ.1);have HR4:=hd (HR3.o.ext hJ.1 (by rw[List.mem_singleton];have:=HGB.o;omega));have HCL4:=hd (fun W (hW:Ext [g] w4 W)=>HCL.o W (hJ.1.trans hW));clear hJ hF hm13 hmn;dsimp only[sIn];go_upto_region 11 with fail
      have hrw4:=HR4.o.lt;generalize hH:w4.heap.size=H4 at *;have HH4:=hd hH;have HGH:Hd (g<H4):=hd (by have:=HGB.o;omega);refine rgC 31 (KD d') base g n [(17,sAny),(23,sAny),(28,sEx H4 (4 ^ d')),(29,sEx1 H4 (4 ^ d'))] (Stays.cons sAny.stays (Stays.cons sAny.stays (Stays.cons (sEx.stays HGH.o) (Stays.cons (sEx1.stays HGH.o) Stays.nil)))) (HD4.o.stm.less (by have:=HKK.o;have:=HK1.o;omega)) ?_
      simp only[List.take_succ_cons,List.take_zero,List.drop_succ_cons,List.drop_zero]
      repeat
       refine relAt_det rfl rfl ?_
       apply Exists.intro
       refine⟨fun wr nr hJ=>?_,?_⟩
       ·have hB:=HD4.o.draw hJ.1 hJ.2;have qp:=hB.blk.cell;have qpl:=hB.blk.lt;have qc:=(HCL4.o wr hJ.1).1;have qcl:=(HCL4.o wr hJ.1).2;unfold bldA at qp;clear hB;clear hJ;(go_simp;try go_bits)
        first|rfl|exact⟨rfl,rfl⟩
       simp only[Act.put,List.setIfInBounds_toArray,List.set_cons_succ,List.set_cons_zero]
      refine rel_callC sAny rfl rfl ?_ ?_
      ·apply Exists.intro
       apply Exists.intro
       refine⟨fun wr=>?_,fun wr m' hE hS hm hf=>?_⟩
       ·go_simp
        first|exact⟨rfl,rfl⟩|rfl
       ·refine(next_any base g m' _ wr (hS.less (by have:=HK1.o;omega)) (by unfold wrap64;omega)).mono ?_
        rintro e w' ⟨r,rfl,_,hE',hS'⟩;exact⟨r,rfl,trivial,hE',hS'⟩
      intro (r1:Int);simp only[Act.put,List.setIfInBounds_toArray,List.set_cons_succ,List.set_cons_zero];dsimp only[sAny]
      repeat
       refine relAt_det rfl rfl ?_
       apply Exists.intro
       refine⟨fun wr nr hJ=>?_,?_⟩
       ·have hB:=HD4.o.draw hJ.1 hJ.2;have qp:=hB.blk.cell;have qpl:=hB.blk.lt;unfold bldA at qp;clear hB;clear hJ;(go_simp;try go_bits)
        first|rfl|exact⟨rfl,rfl⟩
       simp only[Act.put,List.setIfInBounds_toArray,List.set_cons_succ,List.set_cons_zero]
      refine rel_callC sAny rfl rfl ?_ ?_
      ·apply Exists.intro
       apply Exists.intro
       refine⟨fun wr=>?_,fun wr m' hE hS hm hf=>?_⟩
       ·go_simp
        first|exact⟨rfl,rfl⟩|rfl
       ·refine(range_any base g m' (-2) 3 wr (hS.less (by have:=HK1.o;omega)) (by omega) (by omega)).mono ?_
        rintro e w' ⟨r,rfl,_,hE',hS'⟩;exact⟨r,rfl,trivial,hE',hS'⟩
      intro (r2:Int);simp only[Act.put,List.setIfInBounds_toArray,List.set_cons_succ,List.set_cons_zero];dsimp only[sAny];have hdd:(d:Int)-1=(d':Int):=by have:=HDD.o;omega
      repeat
       refine relAt_det rfl rfl ?_
       apply Exists.intro
       refine⟨fun wr nr hJ=>?_,?_⟩
       ·skip
        clear hJ;(go_simp;try go_bits)
        first|rfl|exact⟨rfl,rfl⟩
       simp only[Act.put,List.setIfInBounds_toArray,List.set_cons_succ,List.set_cons_zero]
      refine rel_callC (sEx H4 (4 ^ d')) rfl rfl ?_ ?_
      ·apply Exists.intro
       apply Exists.intro
       refine⟨fun wr=>?_,fun wr m' hE hS hm hf=>?_⟩
       ·go_simp
        first|exact⟨rfl,rfl⟩|rfl
       ·refine(HI.o base g pb m' bc _ bs V l cnt wr (HD4.o.draw hE hS)).mono ?_
        rintro e w' ⟨x,rfl,hx,hp,hE',hS'⟩;exact⟨x,rfl,⟨hx.mono (fun b _ hb=>by have:=hE.size;omega) (Nat.le_refl _),hp⟩,hE',hS'⟩
      intro (x:Ex);simp only[Act.put,List.setIfInBounds_toArray,List.set_cons_succ,List.set_cons_zero];dsimp only[sEx];refine rel_newC (sEx1 H4 (4 ^ d')) rfl rfl ?_ ?_
      ·intro wr hE hf;have hv:(sEx H4 (4 ^ d')).V x wr:=after_get hf 28 (by kernel_rfl);have h1:Ext [] wr (wr.alloc (.cells (exArr x) 41)):=(Ext.refl _ _).alloc _;refine⟨(wr.heap.size,x),.cells (exArr x) 41,?_,by have:=hE.size;show H4<=wr.heap.size;omega,Blk.new _ _ _,ExA.ext h1 (by simp) hv.1,hv.2⟩
       refine exec_buildSlice rfl _ wr _ _ (exV x) ?_ ?_
       ·rfl
       ·exact ex1_slice wr x
      rintro⟨kb,y⟩;simp only[Act.put,List.setIfInBounds_toArray,List.set_cons_succ,List.set_cons_zero];dsimp only[sEx1];refine relAt_det rfl rfl ⟨.agg (exHA (exPk buf ⟨r1,none,0,[]⟩ r2 m kb) 1),fun wr nr hJ=>exec_built 41 _ rfl _ (by refine Eq.trans (congrArg (Tryz.prog.built 41) (?_:_=[(0,Value.int .i64 4),(6,.int .i64 buf),(7,.agg #[.int .i64 r1,.slice none 0 0]),(2,.int .i64 r2),(4,.int .i64 1),(5,.int .i64 m),(8,.slice (some ⟨kb,0,none⟩) 1 1)])) (exPk_built buf ⟨r1,none,0,[]⟩ r2 m kb);simp[Act.eval]),?_⟩
      simp only[Act.put,List.setIfInBounds_toArray,List.set_cons_succ,List.set_cons_zero];refine relAt_nil (fun w5 hJ hF=>?_)
      have hv:(sEx1 H4 (4 ^ d')).V (kb,y) w5:=hF 29;have HV:=hd hv;have HE5:=hd (HE4.o.trans hJ.1);have HS5:=hd hJ.2;have HR5:=hd (HR4.o.ext hJ.1 (by rw[List.mem_singleton];have:=HGB.o;omega));clear hJ hF hv
      go_wp2_with (
             refine wpList_store_wide rfl 41 _ _ rfl rb (exHA (exPk buf ⟨r1,none,0,[]⟩ r2 m kb) 1) zEx 41 rfl rfl HR5.o infoEx rfl (exHA_one _ _) ?_
             intro w6 hB6 hE6;have HB6:=hd hB6;have HE6:=hd hE6;clear hB6 hE6)
      refine bodyPost_ret (results_cell_row rfl _ _ rb 41 _ (0,0) _ rfl HB6.o Tryz.underlying41 rfl (by kernel_rfl)) rfl (exp_done (x:=.mk (exPk buf ⟨r1,none,0,[]⟩ r2 m kb) [y]) (K:=H4) (rb:=rb) (.mk _ _ (afA_nil ..) (seqA_one HV.o.2.1 HV.o.1 (by omega)) (fun e he=>by rw[List.mem_singleton.1 he];exact HV.o.2.2.1)) ?_ HE5.o (HS5.o.less (by omega)) HE6.o (Nat.le_of_eq HRB.o) hrw4 (by rw[HRB.o];exact HGB.o) (by rw[HRB.o];exact HBB.o))
      have hp:parts y<=4 ^ d':=HV.o.2.2.2;have h1:=Nat.one_le_pow d' 4 (by omega);simp only[parts,partsL];rw[<-HDD.o,Nat.pow_succ];omega
     ·skip
      have qp:=HD3.o.blk.cell;have qpl:=HD3.o.blk.lt;unfold bldA at qp;go_upto_region 12 with fail
      go_wp2_with fail
      refine(range_any base g (n+KD d-60) 4 15 _ (HD3.o.stm.less (by have:=HKD.o;omega)) (by omega) (by omega)).mono ?_
      rintro e w4 ⟨op,rfl,hop,hE,hS⟩;have HOP:Hd (4<=op/\op<=15):=hd (by omega);have HD4:=hd (HD3.o.draw hE hS);have HE4:=hd (HE3.o.trans hE);have HR4:=hd (HR3.o.ext hE (by rw[List.mem_singleton];have:=HGB.o;omega));have hrw4:=HR4.o.lt;clear hE hS qp qpl hop;have HB5:=hd (Blk.new w4 41 (exHA (exOp op 0 0 0 none 0) 0));have hE5:Ext [] w4 (w4.alloc (.cells (exHA (exOp op 0 0 0 none 0) 0) 41)):=(Ext.refl _ _).alloc _;have hs5:(w4.alloc (.cells (exHA (exOp op 0 0 0 none 0) 0) 41)).heap.size=w4.heap.size+1:=alloc_size _ _;have HO5:Hd (OpS w (w4.heap.size+1) base g pb (n+KD d-60) bA bc bs V l cnt rb w4.heap.size op 0 0 0 (.slice none 0 0) [] (4 ^ d') (w4.alloc (.cells (exHA (exOp op 0 0 0 none 0) 0) 41))):=hd ⟨HE4.o.trans hE5.nil,HD4.o.grow hE5,HR4.o.ext hE5 (by simp),HB5.o,own_none _ _ _ _,by simp,Nat.le_of_eq HRB.o,hrw4,by omega,by rw[HRB.o];exact HGB.o,Nat.le_of_eq hs5.symm⟩;clear hE5 hs5 HB5;have HON:=hd (exHA_one (exOp op 0 0 0 none 0) 0);have HBU:=hd (exOp_built op);have HZX:=hd (exHA_size (exOp op 0 0 0 none 0) 0);have HIX:=hd (exHA_info (exOp op 0 0 0 none 0) 0);generalize exHA (exOp op 0 0 0 none 0) 0=xo at *
      go_upto_region 13 with(first
       | (refine wpList_built rfl 41 _ rfl xo ?cc ?_;case cc=>refine Eq.trans (congrArg (Tryz.prog.built 41) (?_:_=[(0,Value.int .i64 5),(1,.int .i64 op)])) HBU.o;simp[Act.eval])
       | refine wpList_make_wide rfl rfl 41 _ _ rfl rfl zEx (zEx_run _) xo rfl rfl HIX.o HZX.o HON.o ?_)
      generalize World.alloc w4 _=w5 at *;generalize w4.heap.size=eb at *;clear HON HBU HZX HIX HD4 HE4 HR4;have qe:=HO5.o.blk.cell;have qel:=HO5.o.blk.lt;go_upto_block 1 with fail
      clear qe qel;go_cut [] (fun wx=>∃lo hi k2:Int,Hd (OpS w (eb+1) base g pb (n+KD d-200) bA bc bs V l cnt rb eb op lo hi k2 (.slice none 0 0) [] (4 ^ d') wx))
      case first=>
       by_cases h12:op=12
       ·subst h12;go_upto_region 15 with fail
        refine rgC 11 1 base g (n+KD d-200) [(4,sAny),(9,sAny)] (Stays.cons sAny.stays (Stays.cons sAny.stays Stays.nil)) (HO5.o.bld.stm.less (by have:=HKD.o;omega)) ?_
        simp only[List.take_succ_cons,List.take_zero,List.drop_succ_cons,List.drop_zero]
        repeat
         refine relAt_det rfl rfl ?_
         apply Exists.intro
         refine⟨fun wr nr hJ=>?_,?_⟩
         ·have hB:=HO5.o.bld.draw hJ.1 hJ.2;have qp:=hB.blk.cell;have qpl:=hB.blk.lt;unfold bldA at qp;clear hB;clear hJ;(go_simp;try go_bits)
          first|rfl|exact⟨rfl,rfl⟩
         simp only[Act.put,List.setIfInBounds_toArray,List.set_cons_succ,List.set_cons_zero]
        refine rel_callC sAny rfl rfl ?_ ?_
        ·apply Exists.intro
         apply Exists.intro
         refine⟨fun wr=>?_,fun wr m' hE hS hm hf=>?_⟩
         ·go_simp
          first|exact⟨rfl,rfl⟩|rfl
         ·refine(range_any base g m' (-9) 2 wr hS (by omega) (by omega)).mono ?_
          rintro e w' ⟨r,rfl,_,hE',hS'⟩;exact⟨r,rfl,trivial,hE',hS'⟩
        intro (r1:Int);simp only[Act.put,List.setIfInBounds_toArray,List.set_cons_succ,List.set_cons_zero];dsimp only[sAny]
        repeat
         refine relAt_det rfl rfl ?_
         apply Exists.intro
         refine⟨fun wr nr hJ=>?_,?_⟩
         ·have hB:=HO5.o.bld.draw hJ.1 hJ.2;have qp:=hB.blk.cell;have qpl:=hB.blk.lt;unfold bldA at qp;clear hB;clear hJ;(go_simp;try go_bits)
          first|rfl|exact⟨rfl,rfl⟩
         simp only[Act.put,List.setIfInBounds_toArray,List.set_cons_succ,List.set_cons_zero]
        refine rel_callC sAny rfl rfl ?_ ?_
        ·apply Exists.intro
         apply Exists.intro
         refine⟨fun wr=>?_,fun wr m' hE hS hm hf=>?_⟩
         ·go_simp
          first|exact⟨rfl,rfl⟩|rfl
         ·refine(range_any base g m' 2 9 wr hS (by omega) (by omega)).mono ?_
          rintro e w' ⟨r,rfl,_,hE',hS'⟩;exact⟨r,rfl,trivial,hE',hS'⟩
        intro (r2:Int);simp only[Act.put,List.setIfInBounds_toArray,List.set_cons_succ,List.set_cons_zero];dsimp only[sAny]
        repeat
         refine relAt_det rfl rfl ?_
         apply Exists.intro
         refine⟨fun wr nr hJ=>?_,?_⟩
         ·skip
          clear hJ;(go_simp;try go_bits)
          first|rfl|exact⟨rfl,rfl⟩
         simp only[Act.put,List.setIfInBounds_toArray,List.set_cons_succ,List.set_cons_zero]
        refine relAt_nil (fun w6 hJ hF=>?_)
        have HO6:=hd (HO5.o.draw hJ.1 hJ.2);have qe:=HO6.o.blk.cell;have qef:=HO6.o.blk.frozen;have qel:=HO6.o.blk.lt;have HO7:=hd ((HO6.o.set HD.o 2 (.int .i64 r1) rfl).set HD.o 3 (.int .i64 r2) rfl);clear hJ hF;go_wp2_with fail
        go_meet
        exact⟨r1,r2,0,hd (HO7.o.less (by omega))⟩
       ·by_cases h13:op=13
        ·subst h13;have qp:=HO5.o.bld.blk.cell;have qpl:=HO5.o.bld.blk.lt;unfold bldA at qp;go_upto_region 17 with fail
         go_wp2_with fail
         refine(range_any base g (n+KD d-200) 1 31 _ (HO5.o.bld.stm.less (by have:=HKD.o;omega)) (by omega) (by omega)).mono ?_
         rintro e w6 ⟨r1,rfl,_,hE,hS⟩;have HO6:=hd (HO5.o.draw hE hS);clear hE hS qp qpl;have qe:=HO6.o.blk.cell;have qef:=HO6.o.blk.frozen;have qel:=HO6.o.blk.lt;have HO7:=hd (HO6.o.set HD.o 4 (.int .i64 r1) rfl);go_wp2_with fail
         go_meet
         exact⟨0,0,r1,HO7⟩
        ·by_cases h14:op=14
         ·subst h14;have qp:=HO5.o.bld.blk.cell;have qpl:=HO5.o.bld.blk.lt;unfold bldA at qp;have HN6:=hd (Blk.new w5 3 (Nums [1,2,3,7,2147483647]));have hE6:Ext [] w5 (w5.alloc (.cells (Nums [1,2,3,7,2147483647]) 3)):=(Ext.refl _ _).alloc _;have HO6:=hd (HO5.o.draw hE6.nil (HO5.o.bld.stm.ext hE6 (by simp) (by simp)));have hg5:=HO5.o.bld.stm.lt;clear hE6;simp only[Nums,List.map_cons,List.map_nil] at HN6 HO6;go_upto_region 19 with fail
          go_wp2_with fail
          refine(pick_any base g (n+KD d-200) w5.heap.size 5 3 [1,2,3,7,2147483647] _ (HO6.o.bld.stm.less (by have:=HKD.o;omega)) HN6.o (by omega) (by decide)).mono ?_
          rintro e w7 ⟨r1,rfl,_,hE,hS⟩;have HO7:=hd (HO6.o.draw hE hS);clear hE hS qp qpl HO6;have qe:=HO7.o.blk.cell;have qef:=HO7.o.blk.frozen;have qel:=HO7.o.blk.lt;have HO8:=hd (HO7.o.set HD.o 4 (.int .i64 r1) rfl);go_wp2_with fail
          go_meet
          exact⟨0,0,r1,HO8⟩
         ·go_wp2_with fail
          go_meet
          exact⟨0,0,0,hd (HO5.o.less (by omega))⟩
      case rest=>
       obtain⟨lo,hi,k2,HO6⟩:=hcut;clear HO5;have qe:=HO6.o.blk.cell;have qel:=HO6.o.blk.lt
       obtain⟨nn,hnn,hn3⟩:∃nn:Nat,operN op=nn/\nn<=3:=by
        unfold operN;split
        ·exact⟨3,rfl,by omega⟩
        ·split
         ·exact⟨1,rfl,by omega⟩
         ·exact⟨2,rfl,by omega⟩
       have HN3:=hd hn3;have HOPN:=hd (operands_any op wc);rw[hnn] at HOPN;clear hn3 hnn
       obtain⟨F,hF0,hFs,hFn⟩:∃F:Nat->Nat,F 0=n+24*KD d'/\(∀k,k<3->F k=F (k+1)+8*KD d')/\∀k,n<=F k:=⟨fun k=>n+(3-k)*(8*KD d'),by simp only[Nat.sub_zero];omega,fun k hk=>by
        have e:3-k=(3-(k+1))+1:=by omega
        simp only[e,Nat.succ_mul];omega,fun k=>by simp only;omega⟩
       have HF0:=hd hF0;have HFS:=hd hFs;have HFN:=hd hFn;clear hF0 hFs hFn;go_upto_region 20 with fail
       go_wp2_with fail
       refine HOPN.o.mono ?_
       rintro e w7 ⟨rfl,rfl⟩;go_wp2_with fail
       clear qe qel;go_loopw [143] (fun i wr=>∃(k:Nat) (v:Value) (ks:List Ex),i=.int .i64 k/\k<=nn/\Hd (ks.length=k)/\Hd (OpS w (eb+1) base g pb (F k) bA bc bs V l cnt rb eb op lo hi k2 v ks (4 ^ d') wr)) (fun i _=>(nn-intOf i).toNat)
       case atStart=>exact⟨0,_,[],rfl,Nat.zero_le _,hd rfl,hd (HO6.o.less (by rw[HF0.o];have:=HKK.o;have:=HK1.o;omega))⟩
       case round=>
        obtain⟨k,v,ks,rfl,hk,HKL,HO⟩:=hrel;by_cases hlt:k<nn
        ·have hlti:(k:Int)<nn:=by omega
         have HLT:=hd hlt;go_wp2_with fail
         generalize hH:wr.heap.size=H4 at *;have HGH:Hd (g<H4):=hd (by rw[<-hH];exact HO.o.bld.stm.lt);have HHO:Hd (eb+1<=H4):=hd (by rw[<-hH];exact HO.o.hH);have HVB:Hd (∀q,v.ownBlock=some q->q<H4):=hd fun q hq=>by rw[<-hH];exact(HO.o.own.lt q hq).2
         have hk3:k<3:=by have:=HN3.o;omega
         have hdd:(d:Int)-1=(d':Int):=by have:=HDD.o;omega
         refine rgC 7 (KD d') base g (F (k+1)) [(5,sEx H4 (4 ^ d')),(6,sEx1 H4 (4 ^ d'))] (Stays.cons (sEx.stays HGH.o) (Stays.cons (sEx1.stays HGH.o) Stays.nil)) (HO.o.bld.stm.less (by rw[HFS.o k hk3];omega)) ?_
         simp only[List.take_succ_cons,List.take_zero,List.drop_succ_cons,List.drop_zero]
         repeat
          refine relAt_det rfl rfl ?_
          apply Exists.intro
          refine⟨fun wr nr hJ=>?_,?_⟩
          ·have hB:=HO.o.draw hJ.1 hJ.2;have qe:=hB.blk.cell;have qel:=hB.blk.lt;clear hB;clear hJ;(go_simp;try go_bits)
           first|rfl|exact⟨rfl,rfl⟩
          simp only[Act.put,List.setIfInBounds_toArray,List.set_cons_succ,List.set_cons_zero]
         refine rel_callC (sEx H4 (4 ^ d')) rfl rfl ?_ ?_
         ·apply Exists.intro
          apply Exists.intro
          refine⟨fun wr=>?_,fun wr m' hE hS hm hf=>?_⟩
          ·go_simp
           first|exact⟨rfl,rfl⟩|rfl
          ·refine(HI.o base g pb m' bc _ bs V l cnt wr (HO.o.bld.draw hE hS)).mono ?_
           rintro e w' ⟨x,rfl,hx,hp,hE',hS'⟩;exact⟨x,rfl,⟨hx.mono (fun b _ hb=>by have:=hE.size;omega) (Nat.le_refl _),hp⟩,hE',hS'⟩
         intro (x:Ex);simp only[Act.put,List.setIfInBounds_toArray,List.set_cons_succ,List.set_cons_zero];dsimp only[sEx];refine rel_newC (sEx1 H4 (4 ^ d')) rfl rfl ?_ ?_
         ·intro wq hE hf;have hv:(sEx H4 (4 ^ d')).V x wq:=after_get hf 5 (by kernel_rfl);have h1:Ext [] wq (wq.alloc (.cells (exArr x) 41)):=(Ext.refl _ _).alloc _;refine⟨(wq.heap.size,x),.cells (exArr x) 41,?_,by have:=hE.size;show H4<=wq.heap.size;omega,Blk.new _ _ _,ExA.ext h1 (by simp) hv.1,hv.2⟩
          refine exec_buildSlice rfl _ wq _ _ (exV x) ?_ ?_
          ·rfl
          ·exact ex1_slice wq x
         rintro⟨kb,y⟩;simp only[Act.put,List.setIfInBounds_toArray,List.set_cons_succ,List.set_cons_zero];dsimp only[sEx1];refine relAt_nil (fun wy hJ hF=>?_)
         have hv:(sEx1 H4 (4 ^ d')).V (kb,y) wy:=hF 6;have HV:=hd hv;have HOy:=hd ((HO.o.draw hJ.1 hJ.2).less (m:=F (k+1)) (by omega));have HYA:Hd (ExA (fun b=>eb+1<=b/\v.ownBlock≠some b) 10 wy y):=hd (ExA.mono (fun b _ hb=>⟨Nat.le_trans HHO.o hb,fun e=>by have:=HVB.o b e;omega⟩) (Nat.le_refl _) hv.2.2.1);clear hJ hF hv;obtain⟨i0,hi0,hz0,hz1,hz2⟩:=exInfo;have hks:ks.length<3:=by rw[HKL.o];exact hk3
         go_wp2_with (
          refine wpList_append_lies _ rfl _ _ 39 rfl (eb+1) 41 i0 _ 10 112 Tryz.underlying39 hi0 hz0 hz1 hz2 rfl (by decide) v ks.length (ks.flatMap exC) rfl HOy.o.own ⟨kb,0,none⟩ 1 1 (exC y) rfl (exC_len y) ?c1 (exC_one y) (by omega) ?c3 ?c4 HOy.o.hH _ rfl ?_
          case c1=>intro j u hj;rw[Addr.add_mk,Nat.zero_add,HV.o.2.1.cell,<-Array.getElem?_toList,<-exC_arr];exact hj
          case c3=>unfold maxLen;omega
          case c4=>omega
          intro g8 c8 w8 ho8 hg8 hi8 ha8;have HE8:Hd (Ext v.ownBlock.toList wy w8):=hd ((Ext.refl _ wy).grown hg8 fun q hq=>.inl (Option.mem_toList.2 hq));have HO9:=hd (HOy.o.more HD.o HE8.o ho8 (hi8.imp id fun e=>Nat.le_of_eq e.symm) HYA.o HV.o.2.2.2);have hb8:=HOy.o.blk.ext HE8.o fun hm=>by have:=own_base HOy.o.own _ (Option.mem_toList.1 hm);omega
          have qe:=hb8.cell;have qef:=hb8.frozen;have qel:=hb8.lt;clear ho8 hg8 hi8 ha8 hb8)
         go_roundw
         case rel=>exact⟨k+1,_,ks ++ [y],by go_num,by omega,hd (by rw[List.length_append,HKL.o];rfl),HO9⟩
         case measure=>simp[intOf];omega
        ·skip
         obtain⟨VA,vc,rfl,-,-⟩:=own_form HO.o.own;have HSQ:=hd (SeqA.own (P:=fun b=>eb+1<=b) (N:=10) exC_len HO.o.own (by rw[HKL.o];have:=HN3.o;omega) (by decide) (fun q _ h1 _=>h1)).2;have HXX:Hd (ExA (fun b=>eb+1<=b) 10 wr (.mk (exOp op lo hi k2 VA vc) ks)):=hd (.mk _ _ (afA_nil ..) HSQ.o fun x hx=>ExA.mono (fun b _ hb=>hb.1) (Nat.le_refl _) (HO.o.kid x hx).1)
         have HPX:Hd (parts (.mk (exOp op lo hi k2 VA vc) ks)<=4 ^ d):=hd (by
          have h1:=partsL_few (N:=4 ^ d') fun x hx=>(HO.o.kid x hx).2
          have h2:=Nat.one_le_pow d' 4 (by omega);have h3:ks.length*4 ^ d'<=3*4 ^ d':=Nat.mul_le_mul_right _ (by rw[HKL.o];have:=HN3.o;omega);rw[parts,<-HDD.o,Nat.pow_succ];omega)
         have HBE:Hd (Blk wr eb 41 (exArr (.mk (exOp op lo hi k2 VA vc) ks))):=hd HO.o.blk;have HON:=hd (exArr_one (.mk (exOp op lo hi k2 VA vc) ks));have HIX:=hd (show(Tryz.prog.info? 41).map (·.size)=some (exArr (.mk (exOp op lo hi k2 VA vc) ks)).size from infoEx);have HZX:=hd (show zEx.size=(exArr (.mk (exOp op lo hi k2 VA vc) ks)).size from rfl);have HXV:=hd (exV_arr (.mk (exOp op lo hi k2 VA vc) ks));generalize Ex.mk (exOp op lo hi k2 VA vc) ks=xx at *;generalize exArr xx=xa at *
         go_wp2_with (first
          | refine wpList_load_wide rfl 41 _ rfl eb 0 rfl xa HBE.o.wide _ Tryz.underlying41 rfl HIX.o ?_
          | (
            refine wpList_store_wide rfl 41 _ _ rfl rb xa zEx 41 rfl rfl HO.o.res HIX.o HZX.o HON.o ?_
            intro w8 hB8 hE8;have HB8:=hd hB8;have HE8:=hd hE8;clear hB8 hE8))
         rw[<-HKL.o] at *;refine bodyPost_ret (results_cell_row rfl _ _ rb 41 _ (0,0) _ rfl HB8.o Tryz.underlying41 rfl HIX.o) rfl ?_
         rw[<-HXV.o];exact exp_done (x:=xx) (K:=eb+1) (rb:=rb) HXX.o HPX.o HO.o.ext (HO.o.bld.stm.less (HFN.o _)) HE8.o (Nat.le_of_eq HRB.o) (by have:=HO.o.eb0;omega) (by rw[HRB.o];exact HGB.o) (by rw[HRB.o];exact HBB.o)
end
section
attribute [local irreducible] relAt
theorem gexpr_any:∀d,d<=1000->GexC d
 | 0,h=>gexpr_step 0 h fun e he=>by omega
 | d+1,h=>gexpr_step (d+1) h fun e he=>by
  have:e=d:=by omega
  subst this;exact gexpr_any e (by omega)
def stHd (buf:Int)(a:Af)(x:Ex):SH:=⟨3,⟨#[]⟩,0,0,0,false,none,0,[],none,0,buf,a,x⟩
theorem stHd_built (buf:Int)(a:Af)(x:Ex):Tryz.prog.built 43 [(0,.int .i64 3),(8,.int .i64 buf),(9,.agg #[.int .i64 a.base,.slice a.A a.ts.length a.cap]),(10,.agg (exHA x.h x.ks.length))]=some (stArr (stHd buf a x) 0 x.h x.ks.length):=by kernel_rfl
def StP (base g n N:Nat)(w:World)(e:Ending)(w':World):Prop:=∃s:St,e=.returned (stV s)/\StA (fun b=>w.heap.size<=b) N w' s/\Ext [g] w w'/\Stm w' base g n
theorem StA.past {w w':World}{H K N rb:Nat}{s:St}(h:StA (fun b=>K<=b) N w s)(hE:Ext [rb] w w')(hr:rb<K)(hH:H<=K):StA (fun b=>H<=b) N w' s:=
 StA.mono (fun b _ hb=>by omega) (Nat.le_refl _) (StA.ext hE (fun y hy=>by rw[List.mem_singleton.1 hy];omega) h)
set_option maxHeartbeats 16000000 in
set_option maxRecDepth 100000 in
theorem gstore_any (base g pb n bc:Nat)(bA:Option Addr)(bs:List Bf)(V:Value)(l:List St)(cnt:Int)(w:World)(h:Bld w base g pb (n+100*KD 2) bA bc bs V l cnt) :
  Calls Tryz.prog 152 #[.pointer (some ⟨pb,0,none⟩)] w (StP base g n 20 w):=by
 have HD:=hd h;have HKD:=hd (KD_pos 2);have HB9:=hd (And.intro h.bne h.b9);have HBB:Hd (base<=w.heap.size):=hd (by have:=h.bpb;have:=h.blk.lt;omega);have HEX:=hd (fun d (hd2:d<=2)=>gexpr_any d (by omega))
 have HK2:Hd (∀d,d<=2->KD d<=KD 2/\4 ^ d<=16):=hd fun d hd2=>by
  have:d=0\/d=1\/d=2:=by omega
  rcases this with rfl|rfl|rfl<;>decide
 clear h;generalize KD 2=K2 at *;go_enter Tryz.func152,Tryz.ntmps152
 go_upto_region 1 with fail
 have HE1:=hd ((Ext.refl [g] w).alloc (.cells zSt 43));have HR1:=hd (Blk.new w 43 zSt);have HD1:=hd (HD.o.grow ((Ext.refl [] w).alloc (.cells zSt 43)));unfold zSt at HE1 HR1 HD1;generalize World.alloc w _=w1 at *;change Hd (Blk w1 w.heap.size 43 zSt) at HR1;generalize hrb:w.heap.size=rb at *;have HRB:=hd hrb;have HGB:Hd (g<rb):=hd (by rw[<-hrb];exact HD.o.stm.lt);clear hrb;refine rgC 11 1 base g (n+100*K2-20) [(10,sBelow bs.length)] (Stays.cons sBelow.stays Stays.nil) (HD1.o.stm.less (by have:=HKD.o;omega)) ?_
 simp only[List.take_succ_cons,List.take_zero,List.drop_succ_cons,List.drop_zero]
 repeat
  refine relAt_det rfl rfl ?_
  apply Exists.intro
  refine⟨fun wr nr hJ=>?_,?_⟩
  ·have hB:=HD1.o.draw hJ.1 hJ.2;have qp:=hB.blk.cell;have qpl:=hB.blk.lt;unfold bldA at qp;clear hB;clear hJ;(go_simp;try go_bits)
   first|rfl|exact⟨rfl,rfl⟩
  simp only[Act.put,List.setIfInBounds_toArray,List.set_cons_succ,List.set_cons_zero]
 refine rel_callC (sBelow bs.length) rfl rfl ?_ ?_
 ·apply Exists.intro
  apply Exists.intro
  refine⟨fun wr=>?_,fun wr m hE hS hm hf=>?_⟩
  ·go_simp
   first|exact⟨rfl,rfl⟩|rfl
  ·refine(next_any base g m (bs.length:Int) wr hS (by have:=HB9.o.2;omega)).mono ?_
   rintro e w' ⟨r,rfl,hr,hE',hS'⟩;exact⟨r,rfl,⟨hr.1,hr.2 (by have:=HB9.o.1;omega)⟩,hE',hS'⟩
 intro (buf0:Int);simp only[Act.put,List.setIfInBounds_toArray,List.set_cons_succ,List.set_cons_zero];refine relAt_nil (fun w2 hJ hF=>?_)
 have hb0:0<=buf0/\buf0<bs.length:=hF 10;obtain⟨buf,rfl⟩:∃b:Nat,buf0=b:=⟨buf0.toNat,by omega⟩;have HBF:Hd (buf<bs.length):=hd (by omega);have HD2:=hd ((HD1.o.draw hJ.1 hJ.2).less (m:=n+100*K2-20) (by omega));have HE2:=hd (HE1.o.trans hJ.1);have HR2:=hd (HR1.o.ext hJ.1 (by rw[List.mem_singleton];have:=HGB.o;omega));clear hJ hF hb0 HD1 HE1 HR1;dsimp only[sBelow];go_upto_region 2 with fail
 have hrw:=HR2.o.lt;generalize hH:w2.heap.size=H2 at *;have HH2:=hd hH;have HGH:Hd (g<H2):=hd (by have:=HGB.o;omega);refine rgC 12 (2*K2) base g n [(3,sAf H2),(9,sIn 0 2),(10,sEx H2 16)] (Stays.cons (sAf.stays HGH.o) (Stays.cons sIn.stays (Stays.cons (sEx.stays HGH.o) Stays.nil))) (HD2.o.stm.less (by have:=HKD.o;omega)) ?_
 simp only[List.take_succ_cons,List.take_zero,List.drop_succ_cons,List.drop_zero]
 repeat
  refine relAt_det rfl rfl ?_
  apply Exists.intro
  refine⟨fun wr nr hJ=>?_,?_⟩
  ·skip
   clear hJ;(go_simp;try go_bits)
   first|rfl|exact⟨rfl,rfl⟩
  simp only[Act.put,List.setIfInBounds_toArray,List.set_cons_succ,List.set_cons_zero]
 refine rel_callC (sAf H2) rfl rfl ?_ ?_
 ·apply Exists.intro
  apply Exists.intro
  refine⟨fun wr=>?_,fun wr m hE hS hm hf=>?_⟩
  ·go_simp
   first|exact⟨rfl,rfl⟩|rfl
  ·refine(ginside_any base g pb m bc buf bA bs V l cnt wr ((HD2.o.draw hE hS).less (by have:=HKD.o;omega)) HBF.o).mono ?_
   rintro e w' ⟨a,rfl,ha,hE',hS'⟩;exact⟨a,rfl,SeqA.mono ha (fun b _ hb=>by have:=hE.size;omega) (Nat.le_refl _),hE',hS'⟩
 intro (a:Af);simp only[Act.put,List.setIfInBounds_toArray,List.set_cons_succ,List.set_cons_zero];dsimp only[sAf]
 repeat
  refine relAt_det rfl rfl ?_
  apply Exists.intro
  refine⟨fun wr nr hJ=>?_,?_⟩
  ·have hB:=HD2.o.draw hJ.1 hJ.2;have qp:=hB.blk.cell;have qpl:=hB.blk.lt;unfold bldA at qp;clear hB;clear hJ;(go_simp;try go_bits)
   first|rfl|exact⟨rfl,rfl⟩
  simp only[Act.put,List.setIfInBounds_toArray,List.set_cons_succ,List.set_cons_zero]
 refine rel_callC (sIn 0 2) rfl rfl ?_ ?_
 ·apply Exists.intro
  apply Exists.intro
  refine⟨fun wr=>?_,fun wr m hE hS hm hf=>?_⟩
  ·go_simp
   first|exact⟨rfl,rfl⟩|rfl
  ·refine(next_any base g m 3 wr (hS.less (by have:=HKD.o;omega)) (by omega)).mono ?_
   rintro e w' ⟨r,rfl,hr,hE',hS'⟩;exact⟨r,rfl,⟨hr.1,by have:=hr.2 (by omega);omega⟩,hE',hS'⟩
 intro (dd:Int);simp only[Act.put,List.setIfInBounds_toArray,List.set_cons_succ,List.set_cons_zero];dsimp only[sIn];refine rel_callC (sEx H2 16) rfl rfl ?_ ?_
 ·apply Exists.intro
  apply Exists.intro
  refine⟨fun wr=>?_,fun wr m hE hS hm hf=>?_⟩
  ·go_simp
   first|exact⟨rfl,rfl⟩|rfl
  ·have hv:(sIn 0 2).V dd wr:=after_get hf 9 (by kernel_rfl);obtain⟨d,rfl⟩:∃d:Nat,dd=d:=⟨dd.toNat,by have:=hv.1;omega⟩;have hd2:d<=2:=by have:=hv.2;omega
   have hk:=HK2.o d hd2;refine(HEX.o d hd2 base g pb m bc bA bs V l cnt wr ((HD2.o.draw hE hS).less (by omega))).mono ?_
   rintro e w' ⟨x,rfl,hx,hp,hE',hS'⟩;exact⟨x,rfl,⟨hx.mono (fun b _ hb=>by have:=hE.size;omega) (Nat.le_refl _),by omega⟩,hE',hS'⟩
 intro (x:Ex);simp only[Act.put,List.setIfInBounds_toArray,List.set_cons_succ,List.set_cons_zero];dsimp only[sEx];have HON:=hd (stArr_one (stHd buf a x) 0 x.h x.ks.length);have HSI:=hd (show(Tryz.prog.info? 43).map (·.size)=some (stArr (stHd buf a x) 0 x.h x.ks.length).size from infoSt);have HZS:=hd (show zSt.size=(stArr (stHd buf a x) 0 x.h x.ks.length).size from rfl);have HSV:=hd (show stV (.mk (stHd buf a x) [])=.agg (stArr (stHd buf a x) 0 x.h x.ks.length) from rfl);have HBU:=hd (stHd_built buf a x);have HXV:=hd (show exV x=.agg (exHA x.h x.ks.length) by cases x;rfl);generalize stArr (stHd buf a x) 0 x.h x.ks.length=sa at *;rw[HXV.o];refine relAt_det rfl rfl ⟨.agg sa,fun wr nr hJ=>exec_built 43 _ rfl _ (by refine Eq.trans (congrArg (Tryz.prog.built 43) (?_:_=[(0,Value.int .i64 3),(8,.int .i64 buf),(9,.agg #[.int .i64 a.base,.slice a.A a.ts.length a.cap]),(10,.agg (exHA x.h x.ks.length))])) HBU.o;simp[Act.eval,afV]),?_⟩
 simp only[Act.put,List.setIfInBounds_toArray,List.set_cons_succ,List.set_cons_zero];refine relAt_nil (fun w3 hJ hF=>?_)
 have ha:(sAf H2).V a w3:=hF 3;have hx:(sEx H2 16).V x w3:=hF 10;have HA:=hd ha;have HX:=hd hx;have HE3:=hd (HE2.o.trans hJ.1);have HS3:=hd hJ.2;have HR3:=hd (HR2.o.ext hJ.1 (by rw[List.mem_singleton];have:=HGB.o;omega));clear hJ hF ha hx
 go_wp2_with (
        refine wpList_store_wide rfl 43 _ _ rfl rb sa zSt 43 rfl rfl HR3.o HSI.o HZS.o HON.o ?_
        intro w4 hB4 hE4;have HB4:=hd hB4;have HE4:=hd hE4;clear hB4 hE4)
 have HST:Hd (StA (fun b=>H2<=b) 20 w3 (.mk (stHd buf a x) [])):=hd (.mk _ _ (SeqA.nil ..) (fun a h=>by simp[stHd] at h) (SeqA.mono HA.o (fun b _ hb=>hb) (by omega)) (HX.o.1.mono (fun b _ hb=>hb) (by omega)) (by have:=HX.o.2;show parts x<=20;omega) (by show(⟨#[]⟩:ByteArray).size<=20;decide) (by decide) (SeqA.nil ..) (fun s h=>by cases h));refine bodyPost_ret (results_cell_row rfl _ _ rb 43 _ (0,0) _ rfl HB4.o Tryz.underlying43 rfl HSI.o) rfl ?_
 rw[<-HSV.o];exact⟨_,rfl,HST.o.past HE4.o hrw (by have:=HRB.o;omega),HE3.o.step HE4.o fun y hy=>.inr (by rw[List.mem_singleton.1 hy];exact Nat.le_of_eq HRB.o),HS3.o.ext HE4.o (by rw[List.mem_singleton];have:=HGB.o;omega) (fun y hy=>by rw[List.mem_singleton.1 hy];have:=HBB.o;omega) |>.less (by omega)⟩
end
section
theorem Good.done {ops:Array Oper}{i:Nat}{r:Nat->Bool}(h:Good ops i r)(j:Nat)(hj:(ops[i]?.map fun oi=>oi.after.any fun e=>Region.binds .any e&&e.on==j)=some true):r j=false:=by
 cases ho:ops[i]? with
 | none=>rw[ho] at hj;cases hj
 | some oi=>
  rw[ho] at hj;simp only[Option.map_some,Option.some.injEq] at hj;obtain⟨e,he,hb⟩:=Array.any_eq_true'.1 hj;simp only[Bool.and_eq_true,beq_iff_eq] at hb;rw[<-hb.2];exact h.ready oi ho e he hb.1
theorem setMany_size:∀(vs:List Value) (o:Nat) (C:Array Value),(setMany C o vs).size=C.size
 | [],_,_=>rfl
 | v :: r,o,C=>by rw[setMany,setMany_size r];simp
theorem setMany_get:∀(vs:List Value) (o:Nat) (C:Array Value) (i:Nat),o+vs.length<=C.size->(setMany C o vs)[i]? = if o<=i/\i<o+vs.length then vs[i-o]? else C[i]?
 | [],o,C,i,_=>by rw[setMany,if_neg (by simp only[List.length_nil];omega)]
 | v :: r,o,C,i,h=>by
  rw[List.length_cons] at h;rw[setMany,setMany_get r (o+1) _ i (by simp;omega),List.length_cons];by_cases h1:o+1<=i/\i<o+1+r.length
  ·rw[if_pos h1,if_pos (by omega)];have e:i-o=(i-(o+1))+1:=by omega
   rw[e,List.getElem?_cons_succ]
  ·rw[if_neg h1,Array.getElem?_setIfInBounds];by_cases h2:o=i
   ·subst h2;rw[if_pos rfl,if_pos (by omega),if_pos (by omega),Nat.sub_self];rfl
   ·rw[if_neg h2,if_neg (by omega)]
theorem own_last {w:World}{B e s n c g:Nat}{xs ys zs:List Value}(h:w.ownsRow B e s (.slice (some ⟨g,0,none⟩) (n+1) c) (n+1) (xs ++ ys))(hx:xs.length=n*s)(hz:zs.length=s) :
  (w.setCells g (n*s) zs).ownsRow B e s (.slice (some ⟨g,0,none⟩) (n+1) c) (n+1) (xs ++ zs)/\∃cur,Blk w g e cur/\n*s+s<=cur.size:=by
 have hl:=h.1;rcases h.2 with⟨h1,-⟩|⟨g',c',cur,hv,hb,hg,h1,h2,h3,h4⟩
 ·cases h1
 ·cases hv
  have hns:(n+1)*s<=c*s:=Nat.mul_le_mul_right s h1;rw[Nat.succ_mul] at hns;have hsz:n*s+s<=cur.size:=by rw[h3];exact hns
  refine⟨⟨by rw[List.length_append,hx,hz,Nat.succ_mul],.inr ⟨g,c,setMany cur (n*s) zs,rfl,hb,Blk.many zs (n*s) cur w hg,h1,h2,by rw[setMany_size];exact h3,?_⟩⟩,cur,hg,hsz⟩
  refine List.ext_getElem? fun i=>?_
  rw[List.getElem?_take,Nat.succ_mul];by_cases hi:i<n*s+s
  ·rw[if_pos hi,Array.getElem?_toList,setMany_get zs (n*s) cur i (by rw[hz];exact hsz),hz];by_cases h5:n*s<=i
   ·rw[if_pos ⟨h5,hi⟩,List.getElem?_append_right (by rw[hx];exact h5),hx]
   ·rw[if_neg (by omega),List.getElem?_append_left (by rw[hx];omega)];have h6:=congrArg (fun l:List Value=>l[i]?) h4;simp only[List.getElem?_take,Nat.succ_mul] at h6;rw[if_pos hi,List.getElem?_append_left (by rw[hx];omega),Array.getElem?_toList] at h6;exact h6
  ·rw[if_neg hi,List.getElem?_eq_none (by rw[List.length_append,hx,hz];omega)]
theorem stC_zero:stC (.mk ⟨0,⟨#[]⟩,0,0,0,false,none,0,[],none,0,0,afZ,.mk exZ []⟩ [])=zSt.toList:=rfl
def V7 (base:Nat)(V:Value)(l:List St)(H:Nat)(u:Nat×Nat)(w:World):Prop:=(V.ownBlock=some u.1\/H<u.1)/\∃s',w.ownsRow base 43 21 (.slice (some ⟨u.1,0,none⟩) (l.length+1) u.2) (l.length+1) (l.flatMap stC ++ stC s')
structure JP (w0:World)(base pb:Nat)(V:Value)(l:List St)(oldA:Array Value)(H:Nat)(r:Nat->Bool)(w:World):Prop where
 ext:Ext (pb :: V.ownBlock.toList) w0 w
 row:r 7=true->w.ownsRow base 43 21 V l.length (l.flatMap stC)
 blk:r 12=true->Blk w pb 188 oldA
 siz:r 6=true->w.heap.size=H
 buf:r 6=false->r 7=true->Blk w H 43 zSt/\w.heap.size=H+1
 big:H<=w.heap.size
def RP (base pb:Nat)(V:Value)(l:List St)(H:Nat)(oldA:Array Value)(j:Nat)(w w':World):Prop:=
 if j=7 then Blk w pb 188 oldA else if j=9 then(∀u,V7 base V l H u w->V7 base V l H u w')/\∀A,Blk w pb 188 A->Blk w' pb 188 A
 else if j=12 then Ext [pb] w w'/\∃A,Blk w pb 188 A else Ext [] w w'
section
variable {w0 w w':World} {base pb H:Nat} {V:Value} {l:List St} {oldA:Array Value} {r:Nat->Bool} {i:Nat} {u:Nat×Nat}
theorem JP.pure (h:JP w0 base pb V l oldA H r w)(h6:i≠6)(h7:i≠7)(h12:i≠12):JP w0 base pb V l oldA H (off r i) w:=by
 have e6:off r i 6=r 6:=by unfold off;simp[Ne.symm h6]
 have e7:off r i 7=r 7:=by unfold off;simp[Ne.symm h7]
 have e12:off r i 12=r 12:=by unfold off;simp[Ne.symm h12]
 exact⟨h.ext,by rw[e7];exact h.row,by rw[e12];exact h.blk,by rw[e6];exact h.siz,by rw[e6,e7];exact h.buf,h.big⟩
theorem JP.start (h1:w.ownsRow base 43 21 V l.length (l.flatMap stC))(h2:Blk w pb 188 oldA)(r6:r 6=true):JP w base pb V l oldA w.heap.size r w.drew:=
 ⟨(Ext.refl _ _).drew,fun _=>h1,fun _=>h2,fun _=>rfl,fun h=>(by rw[r6] at h;cases h),Nat.le_refl _⟩
theorem V7.ext0 (h:V7 base V l H u w)(hE:Ext [] w w'):V7 base V l H u w':=⟨h.1,by obtain⟨s',hs⟩:=h.2;exact⟨s',own_ext hs hE (by simp)⟩⟩
theorem V7.farP (h:V7 base V l H u w){A:Array Value}(hB:Blk w pb 188 A)(hE:Ext [pb] w w'):V7 base V l H u w':=⟨h.1,by
 obtain⟨s',hs⟩:=h.2;exact⟨s',own_ext hs hE fun q hq=>by rw[List.mem_singleton];exact own_apart hs hB (by decide) q hq⟩⟩
theorem V7.stays {j:Nat}(hj:j≠7)(hR:RP base pb V l H oldA j w w')(h:V7 base V l H u w):V7 base V l H u w':=by
 unfold RP at hR;rw[if_neg hj] at hR;split at hR
 ·exact hR.1 u h
 ·split at hR
  ·obtain⟨hE,A,hA⟩:=hR;exact h.farP hA hE
  ·exact h.ext0 hR
theorem JP.make (h:JP w0 base pb V l oldA H r w)(hr:r 6=true):w.heap.size=H/\JP w0 base pb V l oldA H (off r 6) (w.alloc (.cells zSt 43))/\RP base pb V l H oldA 6 w (w.alloc (.cells zSt 43)):=by
 have hE:Ext [] w (w.alloc (.cells zSt 43)):=(Ext.refl _ _).alloc _;have hs:=h.siz hr;have e7:off r 6 7=r 7:=by unfold off;simp
 have e12:off r 6 12=r 12:=by unfold off;simp
 have e6:off r 6 6=false:=by unfold off;simp
 refine⟨hs,⟨h.ext.trans hE.nil,fun h7=>own_ext (h.row (e7 ▸ h7)) hE (by simp),fun h12=>(h.blk (e12 ▸ h12)).ext hE (by simp),fun h6=>(by rw[e6] at h6;cases h6),fun _ _=>?_,Nat.le_trans h.big hE.size⟩,by unfold RP;simp;exact hE⟩
 have hB:=Blk.new w 43 zSt;rw[hs] at hB;exact⟨hB,by rw[alloc_size,hs]⟩
theorem stxInfo:∃i,Tryz.prog.info? 43=some i/\i.zero=some (.agg zSt)/\i.size=21/\i.bytes=256:=info_parts (show((Tryz.prog).info? 43).map (fun i=>(i.zero,i.size,i.bytes))=some (some (.agg zSt),21,256) by kernel_rfl)
theorem zSt_one:∀u∈zSt.toList,u.oneCell'=true:=by
 intro u hu;simp only[zSt,List.mem_cons,List.not_mem_nil,or_false] at hu;rcases hu with rfl|rfl|rfl|rfl|rfl|rfl|rfl|rfl|rfl|rfl|rfl|rfl|rfl|rfl|rfl|rfl|rfl|rfl|rfl|rfl|rfl<;>rfl
theorem exec_append {P:Program}{o:Oper}{s x:Operand}{t:TypeId}(ho:o.op=.call {callee:=.builtin .append,args:=#[s,x],argTypes:=#[t,t] })(ev:Operand->Value)(w w':World)(v y u:Value)(hs:ev s=v)(hx:ev x=y)
  (h:(Builtin.append_ #[t,t] o.type #[v,y]).run P w=.ok u w'):(execOp ev o).run P w=.ok (.value u) w':=by
 unfold execOp;simp only[ho,resolve,invoke,builtin,Sem.run_bind,Sem.run_pure,Result.andThen_ok,List.map_toArray,List.map_cons,List.map_nil,hs,hx,h]
set_option maxRecDepth 100000 in
theorem JP.app (ty:TypeId)(h:JP w0 base pb V l oldA H r w)(h7:r 7=true)(h6:r 6=false)(h12:r 12=true)(hl:l.length<=2)(hb:base<=H)(hVp:∀q,V.ownBlock=some q->q≠pb)(hp:pb<H) :
  ∃g cap w',(Builtin.append_ #[27,27] ty #[V,.slice (some ⟨H,0,none⟩) 1 1]).run Tryz.prog w=.ok (.slice (some ⟨g,0,none⟩) (l.length+1) cap) w'/\V7 base V l H (g,cap) w'/\JP w0 base pb V l oldA H (off r 7) w'/\RP base pb V l H oldA 7 w w':=by
 obtain⟨i0,hi0,hz0,hz1,hz2⟩:=stxInfo;obtain⟨hB,hs⟩:=h.buf h6 h7
 obtain⟨g,cap,w',hrun,hro,hg,hat,hlt⟩:=run_append_lies (P:=Tryz.prog) w 27 ty base 43 i0 _ 21 256 Tryz.underlying27 hi0 hz0 hz1 hz2 rfl (by decide) V l.length (l.flatMap stC) (h.row h7) ⟨H,0,none⟩ 1 1 zSt.toList rfl
  (fun j u hj=>by rw[Addr.add_mk,Nat.zero_add,hB.cell,<-Array.getElem?_toList];exact hj) zSt_one (by decide) (by unfold maxLen;omega) (by omega) (by omega) _ rfl
 have hE:Ext V.ownBlock.toList w w':=(Ext.refl _ w).grown hg fun q hq=>.inl (Option.mem_toList.2 hq)
 have hpn:pb∉V.ownBlock.toList:=fun hm=>hVp _ (Option.mem_toList.1 hm) rfl
 have e7:off r 7 7=false:=by unfold off;simp
 have e12:off r 7 12=r 12:=by unfold off;simp
 have e6:off r 7 6=r 6:=by unfold off;simp
 refine⟨g,cap,w',hrun,⟨hat.imp id fun e=>by omega,_,by rw[stC_zero];exact hro⟩,⟨h.ext.step hE fun x hx=>.inl (List.mem_cons_of_mem _ hx),fun e=>(by rw[e7] at e;cases e),fun e=>(h.blk (e12 ▸ e)).ext hE hpn,fun e=>(by rw[e6,h6] at e;cases e),fun _ e=>(by rw[e7] at e;cases e),by have:=hE.size;omega⟩,?_⟩
 unfold RP;rw[if_pos rfl];exact h.blk h12
theorem JP.lay (h:JP w0 base pb V l oldA H r w)(h7:r 7=false)(h6:r 6=false)(hu:V7 base V l H u w)(s:St)(hV:∀q,V.ownBlock=some q->q≠pb)(hp:pb<H)(hw0:w0.heap.size<=H) :
  ∃C,Blk w u.1 43 C/\l.length*21+21<=C.size/\JP w0 base pb V l oldA H (off r 9) (w.setCells u.1 (l.length*21) (stC s))/\RP base pb V l H oldA 9 w (w.setCells u.1 (l.length*21) (stC s)):=by
 obtain⟨hat,s',hs⟩:=hu
 have hx:(l.flatMap stC).length=l.length*21:=by
  have:=hs.1;rw[List.length_append,stC_len,Nat.succ_mul] at this;omega
 obtain⟨-,cur,hB,hsz⟩:=own_last hs hx (stC_len s);have hE:Ext [u.1] w (w.setCells u.1 (l.length*21) (stC s)):=Ext.many (.inl (by simp)) _ _ _ (Ext.refl _ _)
 have hne:u.1≠pb:=by
  rcases hat with e|e
  ·exact hV _ e
  ·omega
 have e7:off r 9 7=r 7:=by unfold off;simp
 have e12:off r 9 12=r 12:=by unfold off;simp
 have e6:off r 9 6=r 6:=by unfold off;simp
 refine⟨cur,hB,hsz,⟨h.ext.step hE fun x hx=>?_,fun e=>(by rw[e7,h7] at e;cases e),fun e=>(h.blk (e12 ▸ e)).ext hE (by rw[List.mem_singleton];omega),fun e=>(by rw[e6,h6] at e;cases e),fun _ e=>(by rw[e7,h7] at e;cases e),Nat.le_trans h.big hE.size⟩,?_⟩
 ·rw[List.mem_singleton.1 hx];rcases hat with e|e
  ·exact .inl (List.mem_cons_of_mem _ (Option.mem_toList.2 e))
  ·exact .inr (by omega)
 ·unfold RP;rw[if_neg (by decide),if_pos rfl];refine⟨fun v hv=>?_,fun A hA=>hA.ext hE (by rw[List.mem_singleton];omega)⟩
  obtain⟨hat',s2,hs2⟩:=hv;refine⟨hat',?_⟩
  by_cases e:v.1=u.1
  ·obtain⟨h5,-⟩:=own_last hs2 hx (stC_len s);rw[<-e];exact⟨s,h5⟩
  ·exact⟨s2,own_ext hs2 hE fun q hq=>by cases hq;rw[List.mem_singleton];exact e⟩
theorem JP.ptr (h:JP w0 base pb V l oldA H r w)(h7:r 7=false)(h6:r 6=false)(h12:r 12=true)(hu:V7 base V l H u w)(y:Value)(newA:Array Value)(hn:oldA.setIfInBounds 3 y=newA) :
  Blk (w.setCell ⟨pb,3,none⟩ y) pb 188 newA/\V7 base V l H u (w.setCell ⟨pb,3,none⟩ y)/\JP w0 base pb V l oldA H (off r 12) (w.setCell ⟨pb,3,none⟩ y)/\RP base pb V l H oldA 12 w (w.setCell ⟨pb,3,none⟩ y):=by
 have hB:=h.blk h12;have hE:Ext [pb] w (w.setCell ⟨pb,3,none⟩ y):=Ext.setAt (.inl (by simp)) (Ext.refl _ _);have e7:off r 12 7=r 7:=by unfold off;simp
 have e12:off r 12 12=false:=by unfold off;simp
 have e6:off r 12 6=r 6:=by unfold off;simp
 refine⟨hn ▸ hB.set_ 3 y,hu.farP hB hE,⟨h.ext.step hE fun x hx=>.inl (by rw[List.mem_singleton.1 hx];simp),fun e=>(by rw[e7,h7] at e;cases e),fun e=>(by rw[e12] at e;cases e),fun e=>(by rw[e6,h6] at e;cases e),fun _ e=>(by rw[e7,h7] at e;cases e),Nat.le_trans h.big hE.size⟩,?_⟩
 unfold RP;rw[if_neg (by decide),if_neg (by decide),if_pos rfl];exact⟨hE,_,hB⟩
end
end
section
def pshA (g:Nat)(bA:Option Addr)(nb bc n:Nat)(cnt:Int)(u:Nat×Nat):Array Value:=bldA g bA nb bc (.slice (some ⟨u.1,0,none⟩) (n+1) u.2) cnt
def sV7 (base:Nat)(V:Value)(l:List St)(H:Nat):Spec:=⟨Nat×Nat,(0,0),fun u=>.slice (some ⟨u.1,0,none⟩) (l.length+1) u.2,V7 base V l H⟩
def sV12 (base:Nat)(V:Value)(l:List St)(H pb g:Nat)(bA:Option Addr)(nb bc:Nat)(cnt:Int):Spec:=⟨Nat×Nat,(0,0),fun _=>undef,fun u w=>Blk w pb 188 (pshA g bA nb bc l.length cnt u)/\V7 base V l H u w⟩
def sUn:Spec:=⟨Unit,(),fun _=>undef,fun _ _=>True⟩
def pshK (base:Nat)(V:Value)(l:List St)(H pb g:Nat)(bA:Option Addr)(nb bc:Nat)(cnt:Int):List (Nat×Spec):=[(6,sFix (.slice (some ⟨H,0,none⟩) 1 1)),(7,sV7 base V l H),(9,sUn),(12,sV12 base V l H pb g bA nb bc cnt)]
theorem rgP {id:Nat}{Q:Exit->Act->World->Prop}{a:Act}{w:World}{ls:List Oper}(base pb g nb bc:Nat)(bA VA:Option Addr)(vc:Nat)(l:List St)(cnt:Int)(h13:ls.length=13)(hG:∀i,i=6\/i=7\/i=12->∀oi,ls.toArray[i]? = some oi->oi.guard=none)
  (h1:w.ownsRow base 43 21 (.slice VA l.length vc) l.length (l.flatMap stC)) (h2:Blk w pb 188 (bldA g bA nb bc (.slice VA l.length vc) cnt))
  (h:relAtU Tryz.prog ls.toArray 13 (JP w base pb (.slice VA l.length vc) l (bldA g bA nb bc (.slice VA l.length vc) cnt) w.heap.size) (RP base pb (.slice VA l.length vc) l w.heap.size (bldA g bA nb bc (.slice VA l.length vc) cnt)) (kinds (pshK base (.slice VA l.length vc) l w.heap.size pb g bA nb bc cnt)) (fun a w=>wpList Tryz.prog ls.toArray Q (ls.drop 13) a w) 0 (ls.take 13) a (fun _ _=>True))
  (hm:(Tryz.prog).follows .mixedOrders=true:=by kernel_rfl) (hB:relB ls.toArray 13=true:=by kernel_rfl):(Code.region id ls.toArray true).wp Tryz.prog Q a w:=by
 refine wp_region_relU 13 _ _ _ hm hB (fun i r w hi hg hJ=>?_) (fun i s j hk hj x w w' hR hV=>?_) (JP.start h1 h2 (by simp[h13])) h
 ·have hne:∀k,k=6\/k=7\/k=12->i≠k:=fun k hk e=>by
   subst e;rcases hi with hi|⟨oi,h3,h4⟩
   ·rcases hk with rfl|rfl|rfl<;>simp[kinds,pshK] at hi
   ·exact h4 (hG _ hk oi h3)
  exact hJ.pure (hne 6 (by simp)) (hne 7 (by simp)) (hne 12 (by simp))
 ·have hm:=kinds_mem hk;simp only[pshK,List.mem_cons,Prod.mk.injEq,List.not_mem_nil,or_false] at hm;rcases hm with⟨rfl,rfl⟩|⟨rfl,rfl⟩|⟨rfl,rfl⟩|⟨rfl,rfl⟩
  ·exact hV
  ·exact V7.stays hj hR hV
  ·trivial
  ·obtain⟨hb,hv⟩:=hV;by_cases h7:j=7
   ·subst h7;unfold RP at hR;rw[if_pos rfl] at hR;exfalso
    unfold Blk at hb hR;rw[hR] at hb;have e:=(Obj.cells.inj (Option.some.inj hb)).1;have e2:=congrArg (fun A:Array Value=>A[3]?) e;simp[bldA,pshA] at e2
   ·have hv':=V7.stays h7 hR hv;refine⟨?_,hv'⟩
    unfold RP at hR;rw[if_neg h7] at hR;split at hR
    ·exact hR.2 _ hb
    ·exact hb.ext hR (by simp)
theorem own_init {w:World}{B e s n c g:Nat}{xs ys:List Value}(h:w.ownsRow B e s (.slice (some ⟨g,0,none⟩) (n+1) c) (n+1) (xs ++ ys))(hx:xs.length=n*s):w.ownsRow B e s (.slice (some ⟨g,0,none⟩) n c) n xs:=by
 rcases h.2 with⟨h1,-⟩|⟨g',c',cur,hv,hb,hg,h1,h2,h3,h4⟩
 ·cases h1
 ·cases hv
  refine⟨hx,.inr ⟨g,c,cur,rfl,hb,hg,by omega,h2,h3,?_⟩⟩
  refine List.ext_getElem? fun i=>?_
  rw[List.getElem?_take];by_cases hi:i<n*s
  ·rw[if_pos hi];have h6:=congrArg (fun l:List Value=>l[i]?) h4;simp only[List.getElem?_take] at h6;rw[if_pos (by rw[Nat.succ_mul];omega),List.getElem?_append_left (by omega)] at h6;exact h6
  ·rw[if_neg hi,List.getElem?_eq_none (by omega)]
section
variable {w w':World} {base g pb n bc:Nat} {bA VA:Option Addr} {bs:List Bf} {V:Value} {l:List St} {cnt:Int} {vc:Nat}
theorem Bld.vpb (h:Bld w base g pb n bA bc bs V l cnt):∀q,V.ownBlock=some q->q≠pb:=own_apart h.row h.blk (by decide)
theorem Bld.vg (h:Bld w base g pb n bA bc bs V l cnt):∀q,V.ownBlock=some q->q≠g:=by
 obtain⟨C,hC⟩:=h.stm.blk;exact own_apart h.row hC (by decide)
theorem Bld.parts' (h:Bld w base g pb n bA bc bs V l cnt)(hE:Ext (pb :: V.ownBlock.toList) w w'):Stm w' base g n/\w'.ownsRow base 45 4 (.slice bA bs.length bc) bs.length (bs.flatMap bfC):=by
 refine⟨h.stm.ext hE ?_ fun x hx=>?_,own_ext h.buf hE fun q hq hm=>?_⟩
 ·intro hm;rcases List.mem_cons.1 hm with e|e
  ·exact h.pg e.symm
  ·exact h.vg _ (Option.mem_toList.1 e) rfl
 ·rcases List.mem_cons.1 hx with rfl|e
  ·exact h.bpb
  ·exact own_base h.row _ (Option.mem_toList.1 e)
 ·rcases List.mem_cons.1 hm with e|e
  ·exact own_apart h.buf h.blk (by decide) q hq e
  ·obtain⟨C,hC⟩:=own_blkG h.row (Option.mem_toList.1 e);exact own_apart h.buf hC (by decide) q hq rfl
theorem Bld.push (h:Bld w base g pb n bA bc bs V l cnt)(hl:l.length<=2)(hE:Ext (pb :: V.ownBlock.toList) w w'){u:Nat×Nat}{H:Nat}(hB:Blk w' pb 188 (pshA g bA bs.length bc l.length cnt u))(hv:V7 base V l H u w') :
  ∃s',Bld w' base g pb n bA bc bs (.slice (some ⟨u.1,0,none⟩) (l.length+1) u.2) (l ++ [s']) cnt:=by
 obtain⟨h1,h2⟩:=h.parts' hE;obtain⟨-,s',hs⟩:=hv;refine⟨s',h1,hB,h.bpb,h2,?_,h.bne,h.b9,h.bsz,by simp;omega⟩
 rw[List.length_append,List.flatMap_append];have e:List.flatMap stC [s']=stC s':=by simp
 rw[e];exact hs
theorem Bld.pop {s':St}{q c:Nat}(h:Bld w base g pb n bA bc bs (.slice (some ⟨q,0,none⟩) (l.length+1) c) (l ++ [s']) cnt):Bld (w.setCell ⟨pb,3,none⟩ (.slice (some ⟨q,0,none⟩) l.length c)) base g pb n bA bc bs (.slice (some ⟨q,0,none⟩) l.length c) l cnt:=by
 have hE:Ext [pb] w (w.setCell ⟨pb,3,none⟩ (.slice (some ⟨q,0,none⟩) l.length c)):=Ext.setAt (.inl (by simp)) (Ext.refl _ _);obtain⟨h1,h2⟩:=h.parts' (hE.mono fun x hx=>.inl (by rw[List.mem_singleton.1 hx];simp));have hr:=h.row;rw[List.length_append,List.flatMap_append] at hr
 have hx:(l.flatMap stC).length=l.length*21:=by
  have:=hr.1;rw[List.length_append] at this;have e:(List.flatMap stC [s']).length=21:=by simp[stC_len]
  rw[e,List.length_singleton,Nat.succ_mul] at this;omega
 exact⟨h1,h.blk.set_' 3 _ _ rfl,h.bpb,h2,own_ext (own_init hr hx) hE fun k hk=>by rw[List.mem_singleton];exact h.vpb k hk,h.bne,h.b9,h.bsz,by have:=h.l3;simp at this;omega⟩
theorem Bld.cnt' (h:Bld w base g pb n bA bc bs V l cnt)(x:Int):Bld (w.setCell ⟨pb,4,none⟩ (.int .i64 x)) base g pb n bA bc bs V l x:=by
 have hE:Ext [pb] w (w.setCell ⟨pb,4,none⟩ (.int .i64 x)):=Ext.setAt (.inl (by simp)) (Ext.refl _ _);obtain⟨h1,h2⟩:=h.parts' (hE.mono fun x hx=>.inl (by rw[List.mem_singleton.1 hx];simp));exact⟨h1,h.blk.set_' 4 _ _ rfl,h.bpb,h2,own_ext h.row hE fun k hk=>by rw[List.mem_singleton];exact h.vpb k hk,h.bne,h.b9,h.bsz,h.l3⟩
end
end
end Go.Proofs.YtfppibmloloakaaGreatDoor
