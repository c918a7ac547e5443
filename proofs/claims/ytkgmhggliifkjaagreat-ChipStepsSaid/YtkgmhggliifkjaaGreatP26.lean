import Derived.Test.YtkgmhggliifkjaaGreatP25
import Derived.Shelf.Spec.SlicesInsert
import Derived.Test.YtkgmhggliifkjaaGreatP12
import Derived.Deep.RegionHeld3
namespace Go.Proofs.YtkgmhggliifkjaaGreat
open Go.RowKit Go.Proofs.Tryz
set_option linter.all false
set_option maxHeartbeats 8000000
set_option maxRecDepth 100000
def Cd (w:World)(B:Nat)(v:Value)(n:Nat):Prop:=
 (v=.slice none 0 0/\n=0)\/∃b cap,v=.slice (some ⟨b,0,none⟩) n cap/\n<=cap/\cap<=9223372036854775807/\Df w b cap/\B<=b
theorem Qc {P:Program}{ops:Array Oper}{o:Oper}{a:Act}{w:World}{K:Act->World->Prop}{Q:Exit->Act->World->Prop}{E:Prop}
  (hg:o.guard=none) (d x:Operand) (dT sT:TypeId) (hop:o.op=Op.call {callee:=Callee.builtin Builtin.append,args:=#[d,x],argTypes:=#[dT,sT] })
  (v u:Value) (hd:a.eval d=v) (hx:a.eval x=u) {v':Value} {w':World} (hr:(Builtin.append_ #[dT,sT] o.type #[v,u]).run P w=.ok v' w') (hK:K (a.put o.dst v') w') :
  if Region.wanted o (yielded ops a.tmps)=true then Oper.wp P o a w K Q else E:=by
 have hw:Region.wanted o (yielded ops a.tmps)=true:=by simp[Region.wanted,hg]
 rw[ijp hw];unfold Oper.wp;simp[execOp,hop,resolve,invoke,builtin,hd,hx,hr,Result.andThen];exact hK
def Ahe (w:World)(n:Nat)(e:Ending)(w':World):Prop:=∃v,e=.returned v/\Cd w' w.heap.size v n/\Ext [] w w'
theorem Nl (A:Option Addr)(cap:Nat)(xs:List Ins)(w:World)(h:RdC w A xs)(hl:xs.length<=1000000) :
  Calls prog 57 #[.slice A xs.length cap] w (Ahe w xs.length):=by
 cases A with
 | none=>
  have heq:∀W:World,(binOp .eql 28 (.slice none xs.length cap) (.slice none 0 0)).run prog W=.ok (.bool true) W:=fun W=>Go.Lib.run_eql_slice_nil (P:=prog) (w:=W) (h:=underlying28) ..
  have h0:xs.length=0:=by
   rcases h with h|⟨b,o,he,_⟩
   ·rw[h];rfl
   ·cases he
  have H0:=hd h0;clear h h0;go_enter func57,ntmps57
  go_wp2_with fail
  go_ret
  exact⟨_,rfl,.inl ⟨rfl,H0.o⟩,er⟩
 | some a=>
  have heq:∀W:World,(binOp .eql 28 (.slice (some a) xs.length cap) (.slice none 0 0)).run prog W=.ok (.bool false) W:=fun W=>Go.Lib.run_eql_slice_nil (P:=prog) (w:=W) (h:=underlying28) ..
  have hnew:Df (w.alloc (.cells #[] 76)) w.heap.size 0:=⟨[],rfl,Blk.new _ _ _⟩
  have hrun:∃cap' b w2,(∀ty,(Builtin.append_ #[28,28] ty #[.slice (some w.heap.size) 0 0,.slice (some a) xs.length cap]).run prog (w.alloc (.cells #[] 76))=.ok (.slice (some ⟨b,0,none⟩) xs.length cap') w2)/\xs.length<=cap'/\cap'<=9223372036854775807/\Df w2 b cap'/\w.heap.size<=b/\Ext [] w w2:=by
   rcases h with h|⟨b,o,he,hc⟩
   ·subst h;obtain⟨i0,hi0,hz0,hz1,hz2⟩:=info_parts Lp;obtain⟨xs0,hx0,hB⟩:=hnew;have hx0':xs0=[]:=List.eq_nil_of_length_eq_zero hx0;subst hx0';refine⟨0,_,_,fun ty=>run_append_room (P:=prog) _ 28 ty 76 i0 underlying28 hi0 w.heap.size 0 0 _ hB a 0 cap [] (by simp) (by simp) (by simp) (by omega) (by simp),by simp,by omega,⟨[],rfl,?_⟩,Nat.le_refl _,?_⟩
    ·unfold Blk;rw[setRow_heap _ _ _ _ _ _ hB];simp[Go.Proofs.YtkgmhggliifkjaaGreat.codeCells]
    ·exact(((Ext.refl [] w).alloc _).step (b:=w.alloc (.cells #[] 76)) (T:=[w.heap.size]) ⟨rfl,rfl,rfl,by simp[World.setRow],fun i _ hi=>setRow_other _ _ i _ (by simpa using hi)⟩ (fun x hx=>.inr (by rw[ms hx];exact Nat.le_refl _)))
   ·cases he
    have hcc:=RdC.codeCells (.inr ⟨b,o,rfl,hc⟩:RdC w (some ⟨b,o,none⟩) xs);by_cases h0:xs.length=0
    ·obtain⟨w2,hr,hC,hE⟩:=Gk (n:=0) (m:=0) (cap:=0) (c2:=cap) (b2:=b) (d:=o) hnew [] rfl (by simp[Go.Proofs.YtkgmhggliifkjaaGreat.codeCells]) (by omega) (by omega);rw[h0];exact⟨0,_,w2,hr,by omega,by omega,hC,Nat.le_refl _,((Ext.refl [] w).alloc _).step hE (fun x hx=>.inr (by rw[ms hx];exact Nat.le_refl _))⟩
    ·obtain⟨cap',w2,hr,h1,h2,hC,hE⟩:=Hs (w:=w.alloc (.cells #[] 76)) (n:=0) (m:=xs.length) (cap:=0) (c2:=cap) (b2:=b) (d:=o) (some w.heap.size) [] xs rfl rfl (.inr ⟨_,_,rfl,by simp[Go.Proofs.YtkgmhggliifkjaaGreat.codeCells]⟩)
      (fun j v hv=>((Ext.refl [] w).alloc _).held (hcc j v hv) (by simp)) (by omega) (by omega) (by omega)
     rw[Nat.zero_add] at hr h1;exact⟨cap',_,w2,hr,h1,h2,hC,by simp,((Ext.refl [] w).alloc _).trans hE⟩
  obtain⟨cap',b,w2,hr,h1,h2,hC,hb,hE⟩:=hrun;have HX:=hd (And.intro h1 (And.intro h2 (And.intro hC (And.intro hb hE))));clear h hnew h1 h2 hC hb hE;go_enter func57,ntmps57
  go_wp2_with (at_builtin;refine Lib.wpList_append_run _ rfl _ _ _ _ rfl _ _ rfl rfl _ _ (hr _) ?_)
  go_ret
  obtain⟨h1,h2,hC,hb,hE⟩:=HX.o;exact⟨_,rfl,.inr ⟨_,_,rfl,h1,h2,hC,hb⟩,hE⟩
def DelP (b cap n:Nat)(w:World)(e:Ending)(w':World):Prop:=e=.returned (.slice (some b) n cap)/\Df w' b cap/\Ext [b] w w'
theorem Xm (b cap k m:Nat)(w:World)(h:Df w b cap)(hn:k+1+m<=cap)(hcap:cap<=9223372036854775807) :
  Calls prog 58 #[.slice (some b) (k+1+m) cap,k,.int .i64 ((k:Int)+1)] w (DelP b cap (k+m) w):=by
 obtain⟨d,hdd,w2,hr,hC2,hE2⟩:∃d,(if cap=k+1 then some (⟨b,0,none⟩:Addr) else some ⟨b,(k+1)*9,none⟩)=some ⟨b,d,none⟩/\∃w2,(∀ty,(Builtin.append_ #[28,28] ty #[.slice (some b) k cap,.slice (some ⟨b,d,none⟩) m (cap-(k+1))]).run prog w.drew=.ok (.slice (some b) (k+m) cap) w2)/\Df w2 b cap/\Ext [b] w.drew w2:=by
  have hD:Df w.drew b cap:=h;by_cases hc:cap=k+1
  ·have hm0:m=0:=by omega
   subst hm0;obtain⟨w2,hw2⟩:=Gk (n:=k) (m:=0) (cap:=cap) (c2:=cap-(k+1)) (b2:=b) (d:=0) hD [] rfl (by simp[Go.Proofs.YtkgmhggliifkjaaGreat.codeCells]) (by omega) (by omega);exact⟨0,by simp[hc],w2,hw2⟩
  ·obtain⟨ys,hys,hcs⟩:=hD.cells (k+1) m (by omega);obtain⟨w2,hw2⟩:=Gk (n:=k) (m:=m) (cap:=cap) (c2:=cap-(k+1)) (b2:=b) (d:=(k+1)*9) hD ys hys hcs (by omega) (by omega);exact⟨(k+1)*9,by simp[hc],w2,hw2⟩
 obtain⟨w3,hcl,hC3,hE3⟩:=Aaf (n:=k+m) (m:=1) (cap:=cap-(k+m)) hC2 (by omega) (by omega);have HC:=hd hC3;have HE:Hd (Ext [b] w w3):=hd (((Ext.refl [b] w).drew.trans hE2).trans hE3);have hne:¬cap=k+m:=by omega
 have hl1:k+1+m-(k+m)=1:=by omega
 have hkc:k<=cap:=by omega
 have hk1:k+1<=cap:=by omega
 have hkm:k+m<=k+1+m:=by omega
 have hi1:(0:Int)<=(k:Int)+1:=by omega
 have hi2:(k:Int)+1<=(k:Int)+1+(m:Int):=by omega
 clear h hC2 hE2 hC3 hE3;go_enter func58,ntmps58
 go_wp2_with fail
 go_region_law (refine Qc rfl (.tmp 22) (.tmp 25) _ _ rfl _ _ (by simp[Act.eval,Act.put]) (by simp[Act.eval,Act.put]) (hr _) ?_)
 go_wp2
 go_ret
 exact⟨rfl,HC.o,HE.o⟩
def Ahf (b n:Nat)(w:World)(e:Ending)(w':World):Prop:=∃b' cap',e=.returned (.slice (some ⟨b',0,none⟩) n cap')/\n<=cap'/\cap'<=9223372036854775807/\Df w' b' cap'/\(b'=b\/w.heap.size<=b')/\Ext [b] w w'
theorem Blk.shape {w:World}{b:Nat}{t:TypeId}{cs:Array Value}(h:Blk w b t cs):w.shape? b=some (t,cs.size):=by
 unfold Blk at h;simp[World.shape?,h]
theorem Xn (b cap k m vb vc:Nat)(x:Ins)(w:World)(h:Df w b cap)(hv:Blk w vb 76 (codeCells [x]).toArray)(hvb:vb≠b)(hn:k+1+m+1<=cap)(hcap:cap<=9223372036854775807) :
  Calls prog 59 #[.slice (some b) (k+1+m) cap,k,.slice (some vb) 1 vc] w (Ahf b (k+1+m+1) w):=by
 obtain⟨i0,hi0,hz0,hz1,hz2⟩:=info_parts Lp;have hc1:¬cap=k:=by omega
 have hc2:¬cap=k+1:=by omega
 have hov:∀lb cb,(callFunc 100 #[.slice (some vb) 1 vc,.slice (some ⟨b,(k+1)*9,none⟩) lb cb]).run prog w=.ok (.value (.bool false)) w:=fun lb cb=>by
  obtain⟨xs,hxs,hB⟩:=h
  rw[run_callFunc_extern func100 (by kernel_rfl) (by kernel_rfl) (by kernel_rfl) (e:=Extern.SlicesOverlaps.overlaps #[28,28] #[4]) (by kernel_rfl),
   Lib.run_overlaps_apart w 28 4 76 underlying28 9 (fun w=>by simp[Go.sizeOf,typeInfo,hi0,hz1]) ⟨vb,0,none⟩ ⟨b,(k+1)*9,none⟩ 1 vc lb cb hvb _ _ _ _ hv.shape hB.shape (by simp[Bg];omega) (hv.frozen 0) (hv.frozen _)]
  rfl
 obtain⟨ys,hys,hcs⟩:=Df.cells (w:=w.drew) h k (m+1) (by omega);obtain⟨w2,hcp1,hC2,hE2⟩:=Mm (w:=w.drew) (c1:=cap-(k+1)) (c2:=cap-k) (o:=k+1) (k:=m+1) (b2:=b) (d:=k*9) h ys hys hcs 3 (k+1+m-k) (k+1+m+1-k) (by show min _ _=_;omega) (by omega);obtain⟨w3,hcp2,hC3,hE3⟩:=Mm (w:=w2) (c1:=cap-k) (c2:=vc) (o:=k) (k:=1) (b2:=vb) (d:=0) hC2 [x] rfl (fun j v hj=>by rw[Nat.zero_add,(hv.drew.ext hE2 (by simpa using hvb)).cell];simpa using hj) 3 (k+1+m+1-k) 1 (by show min _ _=_;omega) (by omega);have HC:=hd hC3;have HE:Hd (Ext [b] w w3):=hd (((Ext.refl [b] w).drew.trans hE2).trans hE3);clear h hv hC2 hE2 hC3 hE3 hcs;have hi1:(0:Int)<=(k:Int)+1:=by omega
 have hi2:(k:Int)+1<=(k:Int)+1+(m:Int)+1:=by omega
 have hi3:(k:Int)<=(k:Int)+1+(m:Int)+1:=by omega
 have hk3:k<=k+1+m+1:=by omega
 have hk4:k+1<=k+1+m+1:=by omega
 have hw1:IntKind.i64.wrap ((k:Int)+1)=(k:Int)+1:=by rw[IntKind.wrap_i64];omega
 have htn:((k:Int)+1).toNat=k+1:=by omega
 go_enter func59,ntmps59
 go_wp2_with (simp only[hov])
 go_region_law (refine step_copy_runI rfl (.tmp 73) (.tmp 76) _ _ rfl _ _ (by simp[Act.eval,Act.put]) (by simp[Act.eval,Act.put]) hcp1 ?_)
 go_wp2_with (refine wpList_copy_runI _ rfl (.tmp 80) (.tmp 81) _ _ rfl _ _ rfl rfl hcp2 ?_)
 go_ret
 exact⟨b,cap,rfl,hn,hcap,HC.o,.inl rfl,HE.o⟩
theorem Xo (b k m vb vc:Nat)(x:Ins)(w:World)(h:Df w b (k+1+m))(hv:Blk w vb 76 (codeCells [x]).toArray)(hvb:vb≠b)(hcap:k+1+m<=900000) :
  Calls prog 59 #[.slice (some b) (k+1+m) (k+1+m),k,.slice (some vb) 1 vc] w (Ahf b (k+1+m+1) w):=by
 have hbl:=h.lt;have hvl:=hv.lt;obtain⟨ys0,hys0,hcs0⟩:=Df.cells h 0 k (by omega);obtain⟨cap',w2,hrz,hcap1,hcap2,hC2,hE2⟩:=Oz (cap:=k+1+m) (b:=b) (o:=0) ys0 hys0 (fun j v hj=>by simpa using hcs0 j v hj) (m:=m+2) (by omega) (by omega) (by omega);rw[show((m+2:Nat):Int)=(k:Int)+1+(m:Int)+1-(k:Int) by omega] at hrz;obtain⟨w3,hcpA,hC3,hE3⟩:=Mm (w:=w2) (c1:=cap'-k) (c2:=vc) (o:=k) (k:=1) (b2:=vb) (d:=0) hC2 [x] rfl (fun j v hj=>by rw[Nat.zero_add,(hv.ext hE2 (by simp)).cell];simpa using hj) 3 (m+2) 1 (by show min _ _=_;omega) (by omega);obtain⟨ys,hys,hcs⟩:=Df.cells h k (m+1) (by omega);have hE23:Ext [w.heap.size] w w3:=(hE2.nil).trans hE3;obtain⟨w4,hcpB,hC4,hE4⟩:=Mm (w:=w3.drew) (c1:=cap'-(k+1)) (c2:=k+1+m-k) (o:=k+1) (k:=m+1) (b2:=b) (d:=k*9) hC3 ys hys (fun j v hj=>(hE23.drew).held (hcs j v hj) (by simp;omega)) 3 (k+(m+2)-(k+1)) (k+1+m-k) (by show min _ _=_;omega) (by omega);have HC:=hd hC4;have HE:Hd (Ext [b] w w4):=hd ((hE23.drew.trans hE4).mono (fun i hi=>.inr (by rw[ms hi];exact Nat.le_refl _)));have HCAP:=hd hcap1;clear h hv hC2 hE2 hC3 hE3 hcs hcs0 hE23 hC4 hE4;have hc0:¬k+1+m=k:=by omega
 have hc1:¬cap'=k:=by omega
 have hc2:¬cap'=k+1:=by omega
 have hc3:¬k+1+m+1<=k+1+m:=by omega
 have hi1:(0:Int)<=(k:Int)+1:=by omega
 have hi2:(k:Int)+1<=(k:Int)+((m:Int)+2):=by omega
 have hi3:(k:Int)<=(k:Int)+1+(m:Int):=by omega
 have hk3:k<=k+1+m:=by omega
 have hk4:k+1<=k+(m+2):=by omega
 have hw1:IntKind.i64.wrap ((k:Int)+1)=(k:Int)+1:=by rw[IntKind.wrap_i64];omega
 have htn:((k:Int)+1).toNat=k+1:=by omega
 go_enter func59,ntmps59
 go_wp2_with (at_builtin;refine Lib.wpList_append_run _ rfl _ _ _ _ rfl _ _ rfl rfl _ _ (hrz _) ?_)
 go_wp2_with (refine wpList_copy_runI _ rfl (.tmp 43) (.tmp 44) _ _ rfl _ _ rfl rfl hcpA ?_)
 go_region_law (refine step_copy_runI rfl (.tmp 50) (.tmp 53) _ _ rfl _ _ (by simp[Act.eval,Act.put]) (by simp[Act.eval,Act.put]) hcpB ?_)
 go_wp2
 go_ret
 exact⟨w.heap.size,cap',congrArg (fun n=>Ending.returned (Value.slice (some w.heap.size) n cap')) (show k+(m+2)=k+1+m+1 by omega),by omega,hcap2,HC.o,.inr (Nat.le_refl _),HE.o⟩
theorem Adm {w:World}{p:Addr}{v:Value}(o:Obj)(h:w.cell? p=some v):(w.alloc o).cell? p=some v:=by
 rw[World.cell?_alloc_lt _ _ _ (World.block_lt_of_cell? w _ h)];exact h
def chN (m0 m1 m2 m3:Int)(q:Nat)(code ends main banks sets queue:Value)(over:Bool):Array Value:=
 #[.int .i64 m0,.int .i64 m1,.int .i64 m2,.int .i64 m3,.int .i64 q,code,ends,main,banks,sets,.int .i64 0,.int .i64 0,.int .i64 0,.int .i64 0,.int .i64 0,.int .i64 0,.int .i64 0,.int .i64 0,.int .i64 0,.int .i64 0,.int .i64 0,.int .i64 0,.int .i64 0,.int .i64 0,.int .i64 0,.int .i64 0,.int .i64 0,.int .i64 0,.int .i64 0,.int .i64 0,.int .i64 0,.int .i64 0,.int .i64 0,.int .i64 0,.int .i64 0,.int .i64 0,.int .i64 0,.int .i64 0,.int .i64 0,.int .i64 0,.int .i64 0,.int .i64 0,.int .i64 0,.int .i64 0,.int .i64 0,.int .i64 0,.int .i64 0,.int .i64 0,.int .i64 0,.int .i64 0,.int .i64 0,.int .i64 0,.int .i64 0,.int .i64 0,.int .i64 0,.int .i64 0,.int .i64 0,.int .i64 0,.int .i64 0,.int .i64 0,.int .i64 0,.int .i64 0,.int .i64 0,.int .i64 0,.int .i64 0,.int .i64 0,.int .i64 0,.int .i64 0,.int .i64 0,.int .i64 0,.int .i64 0,.int .i64 0,.int .i64 0,.int .i64 0,.int .i64 0,.int .i64 0,.int .i64 0,.int .i64 0,.int .i64 0,.int .i64 0,.int .i64 0,.int .i64 0,.int .i64 0,.int .i64 0,.int .i64 0,.int .i64 0,.int .i64 0,.int .i64 0,.int .i64 0,.int .i64 0,.int .i64 0,.int .i64 0,.int .i64 0,.int .i64 0,.int .i64 0,.int .i64 0,.int .i64 0,.int .i64 0,.int .i64 0,.int .i64 0,.int .i64 0,.int .i64 0,.int .i64 0,.int .i64 0,.int .i64 0,.int .i64 0,.int .i64 0,.int .i64 0,.int .i64 0,.int .i64 0,.int .i64 0,.int .i64 0,.int .i64 0,.int .i64 0,.int .i64 0,.int .i64 0,.int .i64 0,.int .i64 0,.int .i64 0,.int .i64 0,.int .i64 0,.int .i64 0,.int .i64 0,.int .i64 0,.int .i64 0,.int .i64 0,.int .i64 0,.int .i64 0,.int .i64 0,.int .i64 0,.int .i64 0,.int .i64 0,.int .i64 0,.int .i64 0,.int .i64 0,.int .i64 0,.int .i64 0,.int .i64 0,.int .i64 0,.int .i64 0,.int .i64 0,.int .i64 0,.int .i64 0,.int .i64 0,.int .i64 0,.int .i64 0,.int .i64 0,.int .i64 0,.int .i64 0,.int .i64 0,.int .i64 0,.int .i64 0,.int .i64 0,.int .i64 0,.int .i64 0,.int .i64 0,.int .i64 0,.int .i64 0,.int .i64 0,.int .i64 0,.int .i64 0,.int .i64 0,queue,.slice none 0 0,.int .i64 0,.int .i64 0,.int .i64 0,.int .i64 0,.bool over,.bool false]
theorem Afj (m0 m1 m2 m3:Int)(q:Nat)(code ends main queue:Value) :
  (((((((((zeroCells72.setIfInBounds 0 (.int .i64 m0)).setIfInBounds 1 (.int .i64 m1)).setIfInBounds 2 (.int .i64 m2)).setIfInBounds 3 (.int .i64 m3)).setIfInBounds 4 (.int .i64 q)).setIfInBounds 5 code).setIfInBounds 6 ends).setIfInBounds 7 main).setIfInBounds 162 queue)=chN m0 m1 m2 m3 q code ends main (.slice none 0 0) (.slice none 0 0) queue false:=by kernel_rfl
def Ahg (xs:List Ins)(w:World)(e:Ending)(w':World):Prop:=
 ∃A c,e=.returned (.slice A xs.length c)/\Ext [] w w'/\RdC w' A xs/\(xs=[]\/∃g,A=some ⟨g,0,none⟩/\w.heap.size<=g/\g<w'.heap.size)
theorem Tc (A:Option Addr)(cap:Nat)(xs:List Ins)(w:World)(h:RdC w A xs)(hl:xs.length<=100000) :
  Calls prog 57 #[.slice A xs.length cap] w (Ahg xs w):=by
 by_cases h0:xs=[]
 ·refine(Nl A cap xs w h (by omega)).mono ?_
  rintro e w' ⟨v,rfl,hv,hE⟩;rcases hv with⟨rfl,hn⟩|⟨b,c,rfl,_⟩
  ·exact⟨none,0,by rw[hn],hE,.inl h0,.inl h0⟩
  ·exact⟨_,c,rfl,hE,.inl h0,.inl h0⟩
 ·have hp:0<xs.length:=List.length_pos_iff.2 h0;have hcopy:=h;rcases hcopy with hx|⟨b,o,rfl,_⟩
  ·exact absurd hx h0
  ·refine(Va b o cap xs w h hp hl).mono ?_
   rintro e w' ⟨g,c,rfl,hE,hR,h1,h2⟩;exact⟨_,c,rfl,hE,hR,.inr ⟨g,rfl,h1,h2⟩⟩
def Ahh (ws:List Int)(w:World)(e:Ending)(w':World):Prop:=
 ∃g c,e=.returned (.slice (some ⟨g,0,none⟩) ws.length c)/\Ext [] w w'/\w.heap.size<=g/\g<w'.heap.size/\ws.length<=c/\UpW w' g 3 ws.length fun i=>.int .i64 (ws.getD i 0)
theorem Na (A:Option Addr)(cap:Nat)(ws:List Int)(w:World)(h:RdI w A ws)(h0:0<ws.length)(hl:ws.length<=600000) :
  Calls prog 37 #[.slice A ws.length cap] w (Ahh ws w):=by
 rcases h with hx|⟨b,o,rfl,hc⟩
 ·rw[hx] at h0;cases h0
 ·refine(Io b o cap ws w hc h0 (by omega)).mono ?_
  rintro e w' ⟨g,c,rfl,hE,ho⟩;have hlt:=ho.lt g rfl;refine⟨g,c,rfl,hE,hlt.1,hlt.2,?_⟩
  obtain⟨hlen,hx⟩:=ho;rcases hx with⟨h1,_⟩|⟨g',cap',cur,h1,_,hg,hnc,hm,hsz,ht⟩
  ·cases h1
  ·cases h1
   refine⟨hnc,cur,hg,fun i hi=>?_⟩
   have h1:(ws.map (Value.int .i64))[i]? = some (.int .i64 (ws.getD i 0)):=by rw[List.getElem?_map,List.getD_eq_getElem?_getD,List.getElem?_eq_getElem hi];rfl
   rw[<-ht,List.getElem?_take,ijp (by omega)] at h1;simpa using h1
def StA (m0 m1 m2 m3:Int)(q:Nat)(xs:List Ins)(main:List Int)(w:World)(s7:Value)(wx:World):Prop:=
 ∃(c:Nat) (A:Option Addr) (ca eb mb mc qb:Nat),s7=.pointer (some c)/\Ext [] w wx/\
  Blk wx c 72 (chN m0 m1 m2 m3 q (.slice A xs.length ca) (.slice (some eb) xs.length xs.length) (.slice (some mb) main.length mc) (.slice none 0 0) (.slice none 0 0) (.slice (some qb) q q) false)/\
  RdC wx A xs/\Blk wx eb 3 (Db (Jm xs xs.length))/\main.length<=mc/\(UpW wx mb 3 main.length fun i=>.int .i64 (main.getD i 0))/\
  Blk wx qb 94 (madeCells #[.pointer none] q)/\
  (xs=[]\/∃g,A=some ⟨g,0,none⟩/\w.heap.size<=g/\g≠eb/\g≠mb/\g≠qb/\g≠c/\g<wx.heap.size)/\
  w.heap.size<eb/\w.heap.size<mb/\w.heap.size<qb/\w.heap.size<c/\eb≠mb/\eb≠qb/\eb≠c/\mb≠qb/\mb≠c/\qb≠c/\
  Blk wx w.heap.size 27 #[m0,m1,m2,m3,q]
section
attribute [local irreducible] Jw
def Af6 (base g n:Nat)(w:World)(e:Ending)(w':World):Prop:=
 ∃v l,e=.returned v/\w'.ownsRow w.heap.size 76 9 v l.length (codeCells l)/\l.length<=50000/\Ext [g] w w'/\Stm w' base g n
structure JK (gc:Nat)(cells:Int->Array Value)(x1:Int)(W2:World)(r:Nat->Bool)(w:World):Prop where
 ext:Ext [gc] W2 w
 blk:∃x,Blk w gc 104 (cells x)/\(r 13=false->x=x1)
theorem Aec {r:Nat->Bool}{i j:Nat}(h:i≠j):off r i j=r j:=by
 have:(j==i)=false:=by simpa using fun e=>h e.symm
 simp[off,this]
theorem JK.less {gc:Nat}{cells:Int->Array Value}{x1:Int}{W2 w:World}{r:Nat->Bool}(h:JK gc cells x1 W2 r w)(i:Nat)(hi:i≠13):JK gc cells x1 W2 (off r i) w:=by
 obtain⟨x,h1,h2⟩:=h.blk;exact⟨h.ext,x,h1,by rw[Aec hi];exact h2⟩
theorem Ff.setS {w:World}{base bc g gc n c:Nat}{m0 m1 m2 m3 m4 s s':Int}{v:Value}{l:List Ins}(h:Ff w base bc g gc n c ⟨m0,m1,m2,m3,m4,s⟩ v l)(hs:s'<=16) :
  Ff (w.setCell ⟨gc,7,none⟩ s') base bc g gc n c ⟨m0,m1,m2,m3,m4,s'⟩ v l:=
 ⟨h.stm.setAt (by have:=h.gb;have:=h.bb;omega) (by have:=h.bas;have:=h.bb;omega),h.blk.set_' 7 _ _ rfl,ownsRow_setCell_other h.own (Kw h.own h.blk (by decide)) _,h.room,h.gb,h.bb,h.bas,h.lan,h.que,hs⟩
def Aba (base bc g gc n c:Nat)(m0 m1 m2 m3 m4:Int)(w wx:World):Prop:=Dx bc [g] w wx/\∃s,Cdr wx base bc g gc n c ⟨m0,m1,m2,m3,m4,s⟩
theorem Af7 (base g n:Nat)(m0 m1 m2 m3 m4:Int)(many:Nat)(hmany:many<=14)(w:World)(h:Stm w base g (n+6000000)) :
  Calls prog 20 #[.pointer (some g),.agg #[m0,m1,m2,m3,m4],many,(3:Int)] w (Af6 base g n w):=by
 have HST:=hd h;have HG:=hd h.lt;clear h;go_enter func20,ntmps20
 go_wp2_with fail
 have HM:=hd ((Blk.new w 27 #[m0,m1,m2,m3,m4]).alloc (.cells #[.pointer (some g),m0,m1,m2,m3,m4,.slice none 0 0,(0:Int)] 104));have HC:=hd (Blk.new' (w.alloc (.cells #[m0,m1,m2,m3,m4] 27)) 104 #[.pointer (some g),m0,m1,m2,m3,m4,.slice none 0 0,(0:Int)] (w.heap.size+1) (by simp));refine Lu 14 (JK (w.heap.size+1) (fun x=>#[.pointer (some g),m0,m1,m2,m3,.int .i64 x,.slice none 0 0,(0:Int)]) (max 1 (min m4 4)) ((w.alloc (.cells #[m0,m1,m2,m3,m4] 27)).alloc (.cells #[.pointer (some g),m0,m1,m2,m3,m4,.slice none 0 0,(0:Int)] 104))) (Ext [w.heap.size+1]) (Bw [(13,⟨Unit,(),fun _=>undef,fun _ _=>True⟩)]) (by kernel_rfl) (by kernel_rfl) ?_ ?_ ?_ ?_
 ·intro i r w hi _ hJ;refine hJ.less i (fun e=>?_)
  subst e;rcases hi with hi|⟨oi,hoi,hg⟩
  ·cases hi
  ·cases hoi;exact hg rfl
 ·exact Ah.cons (fun _ _ _ _ h=>h) Ah.nil
 ·exact⟨er.drew,m4,HC.o,fun h=>by cases h⟩
 simp only[TK]
 repeat(refine dES (fun wr nr hg hJ=>by(have qm:=(HM.o.ext hJ.ext (by simp));have qmc:=qm.cell;have qml:=qm.lt;clear qm);clear hJ;exact CL) ?_;simp only[PT])
 refine Oc rfl rfl ?_ ?_
 ·intro wr nr hg hJ hf;obtain⟨x,hB,hx⟩:=hJ.blk;refine⟨wr.setCell ⟨w.heap.size+1,5,none⟩ (.int .i64 (max 1 (min m4 4))),?_,⟨hJ.ext.setCell (.inl (by simp)) _,_,hB.set_' 5 _ _ rfl,fun _=>rfl⟩,er.setCell (.inl (by simp)) _⟩
  have qc:=hB.cell;have qf:=hB.frozen;have ql:=hB.lt;clear hg hf hB hJ;go_simp
 simp only[PT];refine Rb (fun wy r hr hJ hF=>?_)
 obtain⟨x,hB,hx⟩:=hJ.blk;have hx1:=hx (by rw[hr 13 (by decide)];rfl);subst hx1;have qc:=hB.cell;have qf:=hB.frozen;have ql:=hB.lt;have HBY:=hd hB;have HEY:=hd hJ.ext;clear hJ hF hr hx hB;have HBW:Hd (base<=w.heap.size):=hd (nt HST.o.base (Nat.le_of_lt HG.o));have HE2:Hd (Ext [] w (wy.setCell ⟨w.heap.size+1,4,none⟩ (.int .i64 (max 1 (min m3 8))))):=hd (((((Ext.refl [] w).alloc _).alloc _).step HEY.o (fun i hi=>.inr (by rw[ms hi];omega))).setCell (.inr (by simp)) _)
 have HCD:Hd (Ff (wy.setCell ⟨w.heap.size+1,4,none⟩ (.int .i64 (max 1 (min m3 8)))) base w.heap.size g (w.heap.size+1) (n+6000000) 100000000 ⟨m0,m1,m2,max 1 (min m3 8),max 1 (min m4 4),0⟩ (.slice none 0 0) []):=
  hd ⟨HST.o.ext HE2.o (by simp) (by simp),HBY.o.set_' 4 _ _ rfl,⟨rfl,.inl ⟨rfl,rfl⟩⟩,by simp,HG.o,by omega,HBW.o,by simp only;omega,by simp only;omega,by simp only;omega⟩
 clear HBY HEY HM HC;go_upto_if 32 with(go_at_call 26;refine(Hw base g (n+5900000) _ _ (HCD.o.stm.less (by omega)) (by omega)).mono ?_;rintro e w3 ⟨b3,rfl,hE3,hS3⟩)
 have HC3:=hd (HCD.o.draw hE3 hS3);have HE3:=hd (HE2.o.nil.trans hE3);have HB3:Hd (w.heap.size+1<w3.heap.size):=hd (by have:=HC3.o.blk.lt;omega);clear hE3 hS3;go_cut [] (fun wx=>Aba base w.heap.size g (w.heap.size+1) (n+14*375000) (99960000+14*2500) m0 m1 m2 (max 1 (min m3 8)) (max 1 (min m4 4)) w wx)
 case first=>
  cases b3
  ·have qc:=HC3.o.cells w3 er;have qf:=HC3.o.blk.frozen;have ql:=HC3.o.blk.lt;simp only[As] at qc;go_wp2_with fail
   have HC4:=hd (HC3.o.setS (s':=16) (by omega));have HE4:Hd (Ext [g] w (w3.setCell ⟨w.heap.size+1,7,none⟩ (.int .i64 16))):=hd (HE3.o.setCell (.inr (by simp)) _);clear qc qf ql;refine(Bk base g (n+5800000) _ _ (HC4.o.stm.less (by omega)) (by omega)).mono ?_
   rintro e w5 ⟨rn,rfl,_,hE5,hS5⟩;have HC5:=hd (HC4.o.draw hE5 hS5);have HE5:=hd (HE4.o.trans hE5);clear hE5 hS5;go_wp2_with fail
   refine(Eh base w.heap.size g (w.heap.size+1) (n+5800000) 99999999 ⟨m0,m1,m2,max 1 (min m3 8),max 1 (min m4 4),16⟩ ⟨18,1,0,0,0,0,0,rn,16⟩ _ HC5.o.cdr).mono ?_
   rintro e w6 ⟨rfl,hU6,hC6⟩;have HC6:=hd hC6;have HU6:=hd ((Dx.of_ext HE5.o (Nat.le_refl _) (fun x hx=>.inl hx)).trans hU6);clear hU6 hC6;go_wp2_with fail
   refine(Eh base w.heap.size g (w.heap.size+1) (n+5800000) 99999998 ⟨m0,m1,m2,max 1 (min m3 8),max 1 (min m4 4),16⟩ ⟨19,0,0,0,0,0,0,0,0⟩ _ HC6.o).mono ?_
   rintro e w7 ⟨rfl,hU7,hC7⟩;have HC7:=hd hC7;have HU7:=hd (HU6.o.trans hU7);clear hU7 hC7;go_wp2_with fail
   go_meet
   exact⟨HU7.o,16,HC7.o.less (by omega) (by omega)⟩
  ·go_wp2_with fail
   go_meet
   exact⟨Dx.of_ext HE3.o (Nat.le_refl _) (fun x hx=>.inl hx),0,HC3.o.cdr.less (by omega) (by omega)⟩
 case rest=>
  obtain⟨hU,s,hCR⟩:=hcut;have HU:=hd hU;have HCR:=hd hCR;clear hU hCR HCD HC3;go_wp2_with fail
  go_loopw [45] (fun i wr=>∃k:Nat,i=.int .i64 k/\k<=many/\Aba base w.heap.size g (w.heap.size+1) (n+(14-k)*375000) (99960000+(14-k)*2500) m0 m1 m2 (max 1 (min m3 8)) (max 1 (min m4 4)) w wr) (fun i _=>(many-intOf i).toNat)
  case atStart=>exact⟨0,rfl,by omega,HU.o,s,HCR.o⟩
  case round=>
   obtain⟨k,rfl,hk,hL⟩:=hrel;have HL:=hd hL;clear hL;by_cases hlt:k<many
   ·go_wp2_with fail
    obtain⟨hU,s',hC⟩:=HL.o;refine(Abs 3 (by omega) base w.heap.size g (w.heap.size+1) (n+(14-(k+1))*375000) (99960000+(14-(k+1))*2500) _ wr (hC.less (by show _+375000<=_;omega) (by show _+2500<=_;omega))).mono ?_
    rintro e w7 ⟨rfl,hU7,hC7⟩;have HN:Hd (Aba base w.heap.size g (w.heap.size+1) (n+(14-(k+1))*375000) (99960000+(14-(k+1))*2500) m0 m1 m2 (max 1 (min m3 8)) (max 1 (min m4 4)) w w7):=hd ⟨hU.trans hU7,s',hC7⟩;clear hU hC hU7 hC7;go_wp2_with fail
    go_roundw
    case rel=>exact⟨k+1,by go_num,by omega,HN.o⟩
    case measure=>simp[intOf];omega
   ·obtain⟨hU,s',v,l,hC⟩:=HL.o;have HC:=hd hC;have HU2:=hd hU;have qc:=hC.cells wr er;have ql:=hC.blk.lt;simp only[As] at qc;clear hU hC;go_wp2_with fail
    go_ret
    exact⟨v,l,rfl,HC.o.own,by have:=HC.o.room;omega,HU2.o.ext,HC.o.stm.less (by omega)⟩
end
end Go.Proofs.YtkgmhggliifkjaaGreat
