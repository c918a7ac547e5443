import Derived.Test.YtkgmhggliifkjaaGreatP07
namespace Go.Proofs.YtkgmhggliifkjaaGreat
open Go.RowKit Go.Proofs.Tryz
set_option linter.all false
set_option maxHeartbeats 8000000
set_option maxRecDepth 4000
section
variable {m:Mc} {S:MS} {x:Ins}
theorem MS.wait_pc (S:MS)(d:Int):(S.wait d).pc=S.pc/\(S.wait d).turns=S.turns/\(S.wait d).over=S.over/\(S.wait d).fault=S.fault/\(S.wait d).r=S.r:=by
 cases hq:S.q d with
 | none=>rw[MS.wait_none hq];exact⟨rfl,rfl,rfl,rfl,rfl⟩
 | some t=>rw[MS.wait_some hq];exact⟨rfl,rfl,rfl,rfl,rfl⟩
theorem MS.waits_pc (S:MS):∀n,(S.waits n).pc=S.pc/\(S.waits n).turns=S.turns/\(S.waits n).over=S.over/\(S.waits n).fault=S.fault/\(S.waits n).r=S.r
 | 0=>⟨rfl,rfl,rfl,rfl,rfl⟩
 | n+1=>by
  obtain⟨a,b,c,d,e⟩:=MS.waits_pc S n;obtain⟨a',b',c',d',e'⟩:=MS.wait_pc (S.waits n) (n:Nat);exact⟨a'.trans a,b'.trans b,c'.trans c,d'.trans d,e'.trans e⟩
theorem Im (S:MS)(a:Ar):(S.words a).length=a.size.toNat:=by simp[MS.words]
theorem Cq {a:Ar}(h:Hm m a=false):0<=a.lo/\a.lo+a.size<=Bn m a.bank:=by
 unfold Hm at h;simp only[Bool.or_eq_false_iff,decide_eq_false_iff_not] at h;omega
theorem Fm {rs ws:List Ar}(hb:Cg m S rs ws≠1):(∀a∈rs,Hm m a=false)/\∀a∈ws,Hm m a=false:=by
 unfold Cg at hb;by_cases h:(rs.any (Hm m)||ws.any (Hm m))=true
 ·rw[ijp h] at hb;exact absurd rfl hb
 ·replace h:(rs.any (Hm m)||ws.any (Hm m))=false:=by simpa using h
  rw[Bool.or_eq_false_iff,List.any_eq_false,List.any_eq_false] at h;exact⟨fun a ha=>by simpa using h.1 a ha,fun a ha=>by simpa using h.2 a ha⟩
theorem WfM.eff (hmc:m.okB=true)(h:WfM m S)(hv:VI m x)(hb:Cg m S (Ae m S x) (Ab m S x)=0):WfM m (Az m S x):=by
 have hm:=Bc hmc;have hop:=Ae0 hv.op;rcases hop with ho|ho|ho|ho|ho|ho|ho|ho|ho|ho|ho|ho|ho|ho|ho|ho|ho|ho|ho
 ·have e:Az m S x={S with r:=Be S.r x.d x.n }:=by simp[Az,ho]
  rw[e];exact h.setR x.d (w:=x.n) hv.n rfl rfl rfl rfl rfl rfl
 ·have e:Az m S x={S with r:=Be S.r x.d (opS x.k x.n x.m (S.r x.a) (S.r x.b) (S.r x.c)) }:=by simp[Az,ho]
  rw[e];exact h.setR x.d (Xc (hv.ko (.inl ho)) (hv.kc (.inl ho)) hv.n hv.mm (h.r _) (h.r _) (h.r _)) rfl rfl rfl rfl rfl rfl
 ·have e:Az m S x=S:=by simp[Az,ho]
  rw[e];exact h
 ·have e:Az m S x=S:=by simp[Az,ho]
  rw[e];exact h
 ·have e:Az m S x={S with r:=Be S.r x.d ((S.words ((Ae m S x).getD 0 ⟨0,0,0⟩)).getD 0 0) }:=by simp[Az,ho]
  rw[e];exact h.setR x.d (It (Iz h _) _) rfl rfl rfl rfl rfl rfl
 ·have e:Az m S x=S.put ((Ab m S x).getD 0 ⟨0,0,0⟩) [S.r x.b]:=by simp[Az,ho]
  rw[e];exact h.put _ (fun w hw=>by rw[ms hw];exact h.r _)
 ·have e:Az m S x={S with r:=Be S.r x.d ((S.words ((Ae m S x).getD 0 ⟨0,0,0⟩)).getD 0 0) }:=by simp[Az,ho]
  rw[e];exact h.setR x.d (It (Iz h _) _) rfl rfl rfl rfl rfl rfl
 ·have e:Az m S x=S.put ((Ab m S x).getD 0 ⟨0,0,0⟩) [S.r x.b]:=by simp[Az,ho]
  rw[e];exact h.put _ (fun w hw=>by rw[ms hw];exact h.r _)
 ·have e:Az m S x={S with v:=Be S.v x.d fun k=>if 0<=k/\k<m.lanes then(S.words ((Ae m S x).getD 0 ⟨0,0,0⟩)).getD k.toNat 0 else S.v x.d k }:=by simp[Az,ho]
  rw[e];exact h.setV x.d (fun k=>by split;exact It (Iz h _) _;exact h.v _ _) rfl rfl rfl rfl rfl rfl
 ·have e:Az m S x=S.put ((Ab m S x).getD 0 ⟨0,0,0⟩) ((List.range m.lanes.toNat).map fun k=>S.v x.b (k:Nat)):=by simp[Az,ho]
  rw[e];exact h.put _ (fun w hw=>by obtain⟨i,_,rfl⟩:=List.mem_map.1 hw;exact h.v _ _)
 ·have e:Az m S x={S with v:=Be S.v x.d fun k=>if 0<=k/\k<m.lanes then opS x.k x.n x.m (S.v x.a k) (S.v x.b k) (S.v x.c k) else S.v x.d k }:=by simp[Az,ho]
  rw[e];exact h.setV x.d (fun k=>by split;exact Xc (hv.ko (.inr ho)) (hv.kc (.inr ho)) hv.n hv.mm (h.v _ _) (h.v _ _) (h.v _ _);exact h.v _ _) rfl rfl rfl rfl rfl rfl
 ·have e:Az m S x={S with v:=Be S.v x.d fun k=>if 0<=k/\k<m.lanes then S.r x.a else S.v x.d k }:=by simp[Az,ho]
  rw[e];exact h.setV x.d (fun k=>by split;exact h.r _;exact h.v _ _) rfl rfl rfl rfl rfl rfl
 ·have e:Az m S x={S with r:=Be S.r x.d (S.v x.a x.n) }:=by simp[Az,ho]
  rw[e];exact h.setR x.d (h.v _ _) rfl rfl rfl rfl rfl rfl
 ·have e:Az m S x={S with wt:=fun i k=>if 0<=i/\i<m.lanes/\0<=k/\k<m.lanes then(S.words ((Ae m S x).getD i.toNat ⟨0,0,0⟩)).getD k.toNat 0 else S.wt i k }:=by simp[Az,ho]
  rw[e];exact⟨h.r,h.v,fun i k=>by simp only;split;exact It (Iz h _) _;exact h.wt _ _,h.acc,h.mem,h.q⟩
 ·have e:Az m S x={S with acc:=fun k=>if 0<=k/\k<m.lanes then Hz (S.v x.a) (fun j=>S.wt j k) (S.acc k) m.lanes.toNat else S.acc k }:=by simp[Az,ho]
  rw[e];exact⟨h.r,h.v,h.wt,fun k=>by simp only;split;exact Oy _ _ (h.acc _) _;exact h.acc _,h.mem,h.q⟩
 ·have e:Az m S x={S with acc:=fun _=>0 }:=by simp[Az,ho]
  rw[e];exact⟨h.r,h.v,h.wt,fun _=>Iy,h.mem,h.q⟩
 ·have e:Az m S x={S with v:=Be S.v x.d S.acc }:=by simp[Az,ho]
  rw[e];exact h.setV x.d h.acc rfl rfl rfl rfl rfl rfl
 ·have e:Az m S x={S with q:=Be S.q x.d (some ⟨(Ae m S x).getD 0 ⟨0,0,0⟩,(Ab m S x).getD 0 ⟨0,0,0⟩,S.words ((Ae m S x).getD 0 ⟨0,0,0⟩),S.cyc+Bx m.lanes x+8+x.m⟩) }:=by simp[Az,ho]
  rw[e];refine⟨h.r,h.v,h.wt,h.acc,h.mem,fun d t hd=>?_⟩
  simp only[Be] at hd;split at hd
  ·rename_i hdx
   cases hd
   have hq:=hv.q (.inl ho);have hk:=hv.ks ho;have hcb:=hv.cb (by omega);have hd0:=hv.d;obtain⟨o1,o2⟩:=Fm (m:=m) (S:=S) (rs:=Ae m S x) (ws:=Ab m S x) (by omega);refine⟨by omega,by omega,?_⟩
   have hlen:=Im S ((Ae m S x).getD 0 ⟨0,0,0⟩);have hww:=Iz h ((Ae m S x).getD 0 ⟨0,0,0⟩);rcases hk.1 with hk1|hk2
   ·have er:Ae m S x=[⟨-1,S.r x.a+x.n,x.m⟩]:=by simp[Ae,ho,hk1]
    have ew:Ab m S x=[⟨x.c,S.r x.b,x.m⟩]:=by simp[Ab,ho,hk1]
    rw[er] at o1 hlen hww⊢;rw[ew] at o2⊢;have p1:=Cq (o1 _ (List.mem_singleton.2 rfl));have p2:=Cq (o2 _ (List.mem_singleton.2 rfl));simp only[List.getD_cons_zero] at hlen hww⊢;simp only at p1 p2;exact⟨⟨.inl rfl,hk.2.1,p1.1,p1.2⟩,⟨.inr ⟨hcb.1,by show x.c<m.banks;omega⟩,hk.2.1,p2.1,p2.2⟩,by rw[hlen];show((x.m.toNat:Nat):Int)=x.m;omega,rfl,hww⟩
   ·have er:Ae m S x=[⟨x.c,S.r x.b,x.m⟩]:=by simp[Ae,ho,hk2]
    have ew:Ab m S x=[⟨-1,S.r x.a+x.n,x.m⟩]:=by simp[Ab,ho,hk2]
    rw[er] at o1 hlen hww⊢;rw[ew] at o2⊢;have p1:=Cq (o1 _ (List.mem_singleton.2 rfl));have p2:=Cq (o2 _ (List.mem_singleton.2 rfl));simp only[List.getD_cons_zero] at hlen hww⊢;simp only at p1 p2;exact⟨⟨.inr ⟨hcb.1,by show x.c<m.banks;omega⟩,hk.2.1,p1.1,p1.2⟩,⟨.inl rfl,hk.2.1,p2.1,p2.2⟩,by rw[hlen];show((x.m.toNat:Nat):Int)=x.m;omega,rfl,hww⟩
  ·exact h.q d t hd
 ·have e:Az m S x=S:=by simp[Az,ho]
  rw[e];exact h
end
section
variable {m:Mc} {S:MS} {x:Ins}
def Aco (S T:MS):Prop:=T.pc=S.pc/\T.turns=S.turns/\T.over=S.over/\T.fault=S.fault/\T.cyc=S.cyc
theorem Aco.ite {c:Prop} [Decidable c] {A B:MS}(ha:Aco S A)(hb:Aco S B):Aco S (if c then A else B):=by
 by_cases h:c
 ·rw[ijp h];exact ha
 ·rw[ijn h];exact hb
theorem Uz (m:Mc)(S:MS)(x:Ins):Aco S (Az m S x):=by
 have s:∀T:MS,T.pc=S.pc->T.turns=S.turns->T.over=S.over->T.fault=S.fault->T.cyc=S.cyc->Aco S T:=fun T h1 h2 h3 h4 h5=>⟨h1,h2,h3,h4,h5⟩
 unfold Az;exact .ite (s _ rfl rfl rfl rfl rfl) (.ite (s _ rfl rfl rfl rfl rfl) (.ite (s _ rfl rfl rfl rfl rfl) (.ite (s _ rfl rfl rfl rfl rfl) (.ite (s _ rfl rfl rfl rfl rfl) (.ite (s _ rfl rfl rfl rfl rfl) (.ite (s _ rfl rfl rfl rfl rfl) (.ite (s _ rfl rfl rfl rfl rfl) (.ite (s _ rfl rfl rfl rfl rfl) (.ite (s _ rfl rfl rfl rfl rfl) (.ite (s _ rfl rfl rfl rfl rfl) (.ite (s _ rfl rfl rfl rfl rfl) (.ite (s _ rfl rfl rfl rfl rfl) (.ite (s _ rfl rfl rfl rfl rfl) (s _ rfl rfl rfl rfl rfl))))))))))))))
structure OkS (m:Mc)(xs:List Ins)(S:MS):Prop where
 wf:WfM m S
 pc:S.pc<=xs.length
 stack:Bz xs S.turns S.pc
 live:S.over=false->S.pc<xs.length
theorem OkS.frame {xs:List Ins}(h:OkS m xs S){T:MS}(hw:WfM m T)(h1:T.pc=S.pc)(h2:T.turns=S.turns)(h3:T.over=S.over):OkS m xs T:=
 ⟨hw,by rw[h1];exact h.pc,by rw[h1,h2];exact h.stack,by rw[h1,h3];exact h.live⟩
theorem OkS.wait {xs:List Ins}(h:OkS m xs S)(d:Int):OkS m xs (S.wait d):=by
 obtain⟨a,b,c,_,_⟩:=MS.wait_pc S d;exact h.frame (h.wf.wait d) a b c
structure OkF (m:Mc)(xs:List Ins)(S:MS):Prop where
 wf:WfM m S
 pc:S.pc<=xs.length
 stack:Bz xs S.turns S.pc
theorem OkF.end {xs:List Ins}(h:OkF m xs S):OkS m xs (Fq m xs S):=by
 unfold Fq;by_cases hp:S.pc=xs.length
 ·rw[ijp hp];obtain⟨a,b,c,_,_⟩:=MS.waits_pc S m.queues.toNat
  have hw:=h.wf.waits m.queues.toNat
  exact⟨hw.frame rfl rfl rfl rfl rfl rfl,by show(S.waits _).pc<=_;rw[a];exact h.pc,by show Bz xs (S.waits _).turns (S.waits _).pc;rw[a,b];exact h.stack,fun hh=>by cases hh⟩
 ·rw[ijn hp];exact⟨h.wf,h.pc,h.stack,fun _=>by have:=h.pc;omega⟩
theorem OkF.begin {xs:List Ins}{m:Mc}(hc:Bh m 0 xs=0){S:MS}(hw:WfM m S){s:Nat}{i:Int}{st:List (Nat×Int)}{l:Ins}(hl:xs[s]? = some l)(h3:l.op=3)(h0:0<=i)(hs:Bz xs st (Gh xs (s+1)+1)):OkF m xs (Cz xs S s i st l):=by
 obtain⟨y,hy,hy4⟩:=Qh hc hl h3;have hlt:=(ils hy).1;have hge:=Uy xs (s+1);unfold Cz;by_cases hm:l.m<=i
 ·rw[ijp hm];exact⟨hw.frame rfl rfl rfl rfl rfl rfl,by show Gh xs (s+1)+1<=_;omega,hs⟩
 ·rw[ijn hm];refine⟨hw.setR l.d (Hl _) rfl rfl rfl rfl rfl rfl,by show s+1<=_;omega,?_⟩
  show Bz xs ((s,i+1) :: st) (s+1)
  unfold Bz;exact⟨⟨l,hl,h3,by omega,by omega⟩,by omega,rfl,hs⟩
theorem OkF.flow {xs:List Ins}{m:Mc}(hc:Bh m 0 xs=0){S:MS}(hw:WfM m S)(hst:Bz xs S.turns S.pc){x:Ins}(hx:xs[S.pc]? = some x):OkF m xs (De xs S x):=by
 have hp:=(ils hx).1;unfold De;by_cases h3:x.op=3
 ·rw[ijp h3];refine OkF.begin hc hw hx h3 (Int.le_refl _) ?_
  refine hst.moves (by have:=Uy xs (S.pc+1);omega) (Acm hx h3).symm
 rw[ijn h3];by_cases h4:x.op=4
 ·rw[ijp h4];obtain⟨s,i,st,l,he,hl,hl3,hi0,hi1,hs,hce,hsk⟩:=hst.top hx h4;rw[he];have hgd:xs.getD s zI=l:=by rw[List.getD_eq_getElem?_getD,hl];rfl
  simp only[hgd];exact OkF.begin hc hw hl hl3 (by omega) (by rw[hce];exact hsk)
 ·rw[ijn h4];exact⟨hw.frame rfl rfl rfl rfl rfl rfl,by show S.pc+1<=_;omega,hst.moves (by show S.pc<=S.pc+1;omega) (Zu hx h3 h4).symm⟩
theorem OkS.step {xs:List Ins}(hok:m.okB=true)(hc:Bh m 0 xs=0)(h:OkS m xs S):OkS m xs (Cf m xs S).2:=by
 unfold Cf;by_cases hov:(S.over||S.fault.isSome)=true
 ·rw[ijp hov];exact h
 rw[ijn hov];replace hov:(S.over||S.fault.isSome)=false:=by simpa using hov
 rw[Bool.or_eq_false_iff] at hov;have hpc:=h.live hov.1;obtain⟨x,hx⟩:∃x,xs[S.pc]? = some x:=⟨_,List.getElem?_eq_getElem hpc⟩;have hgd:xs.getD S.pc zI=x:=by rw[List.getD_eq_getElem?_getD,hx];rfl
 rw[hgd];have hv:=Er hok hc x (ilm hx);unfold Gn;dsimp only;obtain⟨S0,hS0⟩:∃S0,S0=(if x.op=18 then S.wait x.d else S):=⟨_,rfl⟩;rw[<-hS0]
 have h0:OkS m xs S0/\S0.pc=S.pc:=by
  rw[hS0];by_cases h18:x.op=18
  ·rw[ijp h18];exact⟨h.wait _,(MS.wait_pc S x.d).1⟩
  ·rw[ijn h18];exact⟨h,rfl⟩
 clear hS0;by_cases hb:Cr S0 x=false/\Cg m S0 (Ae m S0 x) (Ab m S0 x)≠0
 ·rw[ijp hb];exact h0.1.frame (h0.1.wf.frame rfl rfl rfl rfl rfl rfl) rfl rfl rfl
 ·rw[ijn hb];refine OkF.end ?_
  have hw1:WfM m (if Cr S0 x=true then S0 else Az m S0 x)/\(if Cr S0 x=true then S0 else Az m S0 x).pc=S.pc/\Bz xs (if Cr S0 x=true then S0 else Az m S0 x).turns S.pc:=by
   by_cases hi:Cr S0 x=true
   ·rw[ijp hi];exact⟨h0.1.wf,h0.2,by have:=h0.1.stack;rw[h0.2] at this;exact this⟩
   ·rw[ijn hi];obtain⟨e1,e2,_⟩:=Uz m S0 x;refine⟨h0.1.wf.eff hok hv ?_,by rw[e1];exact h0.2,by rw[e2];have:=h0.1.stack;rw[h0.2] at this;exact this⟩
    by_cases hz:Cg m S0 (Ae m S0 x) (Ab m S0 x)=0
    ·exact hz
    ·exact absurd ⟨by simpa using hi,hz⟩ hb
  generalize (if Cr S0 x=true then S0 else Az m S0 x)=S1 at *;obtain⟨w1,p1,s1⟩:=hw1;by_cases h19:x.op=19
  ·rw[ijp h19];obtain⟨a,b,_⟩:=MS.wait_pc {S1 with cyc:=S1.cyc+Bx m.lanes x } x.d;exact OkF.flow hc ((w1.frame rfl rfl rfl rfl rfl rfl:WfM m {S1 with cyc:=S1.cyc+Bx m.lanes x }).wait x.d) (by rw[a,b];show Bz xs S1.turns S1.pc;rw[p1];exact s1) (by rw[a];show xs[S1.pc]? = _;rw[p1];exact hx)
  ·rw[ijn h19];exact OkF.flow (S:={S1 with cyc:=S1.cyc+Bx m.lanes x }) hc (w1.frame rfl rfl rfl rfl rfl rfl) (by show Bz xs S1.turns S1.pc;rw[p1];exact s1) (by show xs[S1.pc]? = _;rw[p1];exact hx)
theorem OkS.new {xs:List Ins}{main:List Int}(hc:Bh m 0 xs=0)(hm:∀w∈main,isW w):OkS m xs (MS.new main xs.length):=by
 refine⟨⟨fun _=>Iy,fun _ _=>Iy,fun _ _=>Iy,fun _=>Iy,fun b i=>?_,fun d t h=>by cases h⟩,Nat.zero_le _,Bz.start hc,fun h=>?_⟩
 ·show isW (if b<0/\0<=i then main.getD i.toNat 0 else 0)
  split
  ·exact It hm _
  ·exact Iy
 ·have h1:(xs.length==0)=false:=h;have h2:xs.length≠0:=by simpa using h1
  show 0<xs.length
  omega
def Fi (c:Int)(S:MS):Prop:=0<=S.cyc/\S.cyc<=c/\∀d t,S.q d=some t->0<=t.ready/\t.ready<=c
theorem Fi.more {c d:Int}(h:Fi c S)(hd:c<=d):Fi d S:=⟨h.1,by have:=h.2.1;omega,fun k t hk=>by have:=h.2.2 k t hk;omega⟩
theorem Fi.frame {c:Int}(h:Fi c S){T:MS}(h1:T.cyc=S.cyc)(h2:T.q=S.q):Fi c T:=⟨by rw[h1];exact h.1,by rw[h1];exact h.2.1,by rw[h2];exact h.2.2⟩
theorem Fi.add {c e:Int}(h:Fi c S)(he:0<=e){T:MS}(h1:T.cyc=S.cyc+e)(h2:T.q=S.q):Fi (c+e) T:=
 ⟨by rw[h1];have:=h.1;omega,by rw[h1];have:=h.2.1;omega,fun k t hk=>by rw[h2] at hk;have:=h.2.2 k t hk;omega⟩
theorem Fi.wait {c:Int}(h:Fi c S)(d:Int):Fi c (S.wait d):=by
 cases hq:S.q d with
 | none=>rw[MS.wait_none hq];exact h
 | some t=>
  have ht:=h.2.2 d t hq;rw[MS.wait_some hq];refine⟨by show 0<=max S.cyc t.ready;have:=h.1;omega,by show max S.cyc t.ready<=c;have:=h.2.1;omega,fun d' t' hd=>?_⟩
  simp only[Be] at hd;split at hd
  ·cases hd
  ·exact h.2.2 d' t' hd
theorem Fi.waits {c:Int}(h:Fi c S):∀n,Fi c (S.waits n)
 | 0=>h
 | n+1=>(Fi.waits h n).wait _
end
end Go.Proofs.YtkgmhggliifkjaaGreat
