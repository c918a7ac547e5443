import Derived.Test.YtkgmhggliifkjaaGreatP18
namespace Go.Proofs.YtkgmhggliifkjaaGreat
open Go.RowKit Go.Proofs.Tryz
set_option linter.all false
set_option maxHeartbeats 8000000
set_option maxRecDepth 100000
section
def Jy (m:Mc)(S:MS)(x:Ins):MS:=
 if x.op=18 then {S with q:=Be S.q x.d (some ⟨(Ae m S x).getD 0 ⟨0,0,0⟩,(Ab m S x).getD 0 ⟨0,0,0⟩,S.words ((Ae m S x).getD 0 ⟨0,0,0⟩),0⟩) } else Az m S x
theorem Xj {S:MS}{bk lo:Int}{n j:Nat}{x:Int}(hj:(S.words ⟨bk,lo,(n:Nat)⟩)[j]? = some x):j<n/\x=S.mem bk (lo+(j:Nat)):=by
 have hlt:=(ils hj).1;rw[Im] at hlt;refine⟨by simpa using hlt,?_⟩
 have h2:=(ils hj).2;unfold MS.words at h2;rw[List.getElem_map,List.getElem_range] at h2;exact h2.symm
section
variable {w:World} {A:CA} {m:Mc} {xs:List Ins} {S:MS}
theorem Ac8 (h:Ag w A m xs S)(hw:WfM m S)(xk xc xp xn xm:Int)(d a b:Nat)(hv:VI m ⟨18,xk,d,a,b,xc,xp,xn,xm⟩)(hb0:Cg m S (Ae m S ⟨18,xk,d,a,b,xc,xp,xn,xm⟩) (Ab m S ⟨18,xk,d,a,b,xc,xp,xn,xm⟩)=0) :
  Calls prog 45 #[.pointer (some A.c),.agg #[(18:Int),xk,d,a,b,xc,xp,xn,xm]] w (Og A m xs (Jy m S ⟨18,xk,d,a,b,xc,xp,xn,xm⟩) w):=by
 have hm:=Bc h.kd.ok;have hk:=hv.ks rfl;have hcb:=hv.cb (by simp);dsimp only at hk hcb;have hb1:=Fm (m:=m) (S:=S) (rs:=Ae m S ⟨18,xk,d,a,b,xc,xp,xn,xm⟩) (ws:=Ab m S ⟨18,xk,d,a,b,xc,xp,xn,xm⟩) (by rw[hb0];decide);obtain⟨n,rfl⟩:∃n:Nat,xm=n:=⟨xm.toNat,by omega⟩;obtain⟨c,rfl⟩:∃n:Nat,xc=n:=⟨xc.toNat,by omega⟩;have hcB:c<m.banks.toNat:=by omega
 have hs1:Bn m (-1)=m.main:=rfl;have hs2:Bn m ((c:Nat):Int)=m.bank:=by unfold Bn;rw[ijn (by omega)]
 rcases hk.1 with rfl|rfl
 ·have er:Ae m S ⟨18,1,d,a,b,(c:Nat),xp,xn,(n:Nat)⟩=[⟨-1,S.r (a:Nat)+xn,(n:Nat)⟩]:=by simp[Ae]
  have ew:Ab m S ⟨18,1,d,a,b,(c:Nat),xp,xn,(n:Nat)⟩=[⟨(c:Nat),S.r (b:Nat),(n:Nat)⟩]:=by simp[Ab]
  rw[er,ew] at hb1;have o1:=Cq (hb1.1 _ (List.mem_singleton.2 rfl));dsimp only at o1;rw[hs1] at o1;obtain⟨lo,hlo⟩:∃k:Nat,S.r (a:Nat)+xn=k:=⟨(S.r (a:Nat)+xn).toNat,by omega⟩
  have H:=Uc h hw 1 a b c xp xn n d hv (-1) (S.r (a:Nat)+xn) n c (S.r (b:Nat)) n er ew A.mb lo n (by omega) (S.words ⟨-1,S.r (a:Nat)+xn,(n:Nat)⟩) (by rw[Im];simp)
   (fun W hW=>by rw[hlo];exact Lv (h.nil hW) lo n (by omega) (by omega))
   (fun W hW j x hj=>by
    obtain⟨h1,rfl⟩:=Xj hj;rw[(h.nil hW).mem.main.cell (i:=lo+j) (by omega),hlo];congr 2)
  have e:Jy m S ⟨18,1,d,a,b,(c:Nat),xp,xn,(n:Nat)⟩={S with q:=Be S.q (d:Nat) (some ⟨⟨-1,S.r (a:Nat)+xn,(n:Nat)⟩,⟨(c:Nat),S.r (b:Nat),(n:Nat)⟩,S.words ⟨-1,S.r (a:Nat)+xn,(n:Nat)⟩,0⟩) }:=by
   unfold Jy;rw[ijp rfl,er,ew];rfl
  rw[e];exact H
 ·have er:Ae m S ⟨18,2,d,a,b,(c:Nat),xp,xn,(n:Nat)⟩=[⟨(c:Nat),S.r (b:Nat),(n:Nat)⟩]:=by simp[Ae]
  have ew:Ab m S ⟨18,2,d,a,b,(c:Nat),xp,xn,(n:Nat)⟩=[⟨-1,S.r (a:Nat)+xn,(n:Nat)⟩]:=by simp[Ab]
  rw[er,ew] at hb1;have o1:=Cq (hb1.1 _ (List.mem_singleton.2 rfl));dsimp only at o1;rw[hs2] at o1;obtain⟨lo,hlo⟩:∃k:Nat,S.r (b:Nat)=k:=⟨(S.r (b:Nat)).toNat,by omega⟩
  have H:=Uc h hw 2 a b c xp xn n d hv c (S.r (b:Nat)) n (-1) (S.r (a:Nat)+xn) n er ew (A.bk c) lo n (by omega) (S.words ⟨(c:Nat),S.r (b:Nat),(n:Nat)⟩) (by rw[Im];simp)
   (fun W hW=>by rw[hlo];exact Ia (h.nil hW) c lo n hcB (by omega) (by omega))
   (fun W hW j x hj=>by
    obtain⟨h1,rfl⟩:=Xj hj;rw[((h.nil hW).mem.bank c hcB).cell (i:=lo+j) (by omega),hlo];congr 2)
  have e:Jy m S ⟨18,2,d,a,b,(c:Nat),xp,xn,(n:Nat)⟩={S with q:=Be S.q (d:Nat) (some ⟨⟨(c:Nat),S.r (b:Nat),(n:Nat)⟩,⟨-1,S.r (a:Nat)+xn,(n:Nat)⟩,S.words ⟨(c:Nat),S.r (b:Nat),(n:Nat)⟩,0⟩) }:=by
   unfold Jy;rw[ijp rfl,er,ew];rfl
  rw[e];exact H
theorem Ac9 (h:Ag w A m xs S)(hw:WfM m S)(xk xc xp xn xm:Int)(d a b:Nat)(hv:VI m ⟨14,xk,d,a,b,xc,xp,xn,xm⟩)(hb0:Cg m S (Ae m S ⟨14,xk,d,a,b,xc,xp,xn,xm⟩) (Ab m S ⟨14,xk,d,a,b,xc,xp,xn,xm⟩)=0) :
  Calls prog 45 #[.pointer (some A.c),.agg #[(14:Int),xk,d,a,b,xc,xp,xn,xm]] w (Fb A m xs (Az m S ⟨14,xk,d,a,b,xc,xp,xn,xm⟩) w):=by
 have hm:=Bc h.kd.ok;have hcb:=hv.cb (by simp);dsimp only at hcb;have hb1:=(Fm (m:=m) (S:=S) (rs:=Ae m S ⟨14,xk,d,a,b,xc,xp,xn,xm⟩) (ws:=Ab m S ⟨14,xk,d,a,b,xc,xp,xn,xm⟩) (by rw[hb0];decide)).1;obtain⟨c,rfl⟩:∃n:Nat,xc=n:=⟨xc.toNat,by omega⟩;obtain⟨L,hL⟩:∃n:Nat,m.lanes=n:=⟨m.lanes.toNat,by omega⟩;have hs2:Bn m ((c:Nat):Int)=m.bank:=by unfold Bn;rw[ijn (by omega)]
 have er:Ae m S ⟨14,xk,d,a,b,(c:Nat),xp,xn,xm⟩=(List.range m.lanes.toNat).map fun i=>⟨(c:Nat),S.r (a:Nat)+xn+(i:Nat)*xm,m.lanes⟩:=by simp[Ae]
 have hlen:(Ae m S ⟨14,xk,d,a,b,(c:Nat),xp,xn,xm⟩).length=L:=by rw[er,List.length_map,List.length_range,hL];rfl
 have e:Az m S ⟨14,xk,d,a,b,(c:Nat),xp,xn,xm⟩={S with wt:=fun i j=>if 0<=i/\i<(L:Int)/\0<=j/\j<(L:Int) then(S.words ((Ae m S ⟨14,xk,d,a,b,(c:Nat),xp,xn,xm⟩).getD i.toNat ⟨0,0,0⟩)).getD j.toNat 0 else S.wt i j }:=by
  simp only[Az,hL];simp
 rw[e];refine Jb h hw 14 xk d a b c xp xn xm hv (by omega) (fun W Ra lr cr hW hR hl hne=>?_)
 have hlL:lr=L:=by omega
 subst hlL;refine Ac6 (h.nil hW) xk d a b c xp xn xm Ra lr cr c _ hR hlen hL (by omega) (by omega) (by omega) hne (fun i y hy=>?_)
 have ho:=Cq (hb1 y (ilm hy));rw[er] at hy;obtain⟨q,hq,rfl⟩:=List.mem_map.1 (ilm hy);dsimp only at ho;rw[hs2,hL] at ho;obtain⟨lo,hlo⟩:∃k:Nat,S.r (a:Nat)+xn+(q:Nat)*xm=k:=⟨(S.r (a:Nat)+xn+(q:Nat)*xm).toNat,by omega⟩;rw[hlo] at ho;exact⟨lo,by rw[hlo,hL],by omega⟩
end
end
theorem Eu {m:Mc}{S:MS}{x:Ins}(h:¬x.op=18):Jy m S x=Az m S x:=by unfold Jy;rw[ijn h]
theorem Aac {w:World}{A:CA}{m:Mc}{xs:List Ins}{S:MS}(h:Ag w A m xs S)(hw:WfM m S)(xo xk xd xa xb xc xp xn xm:Int)(hv:VI m ⟨xo,xk,xd,xa,xb,xc,xp,xn,xm⟩)(hb0:Cg m S (Ae m S ⟨xo,xk,xd,xa,xb,xc,xp,xn,xm⟩) (Ab m S ⟨xo,xk,xd,xa,xb,xc,xp,xn,xm⟩)=0)(hn11:xo≠11) :
  Calls prog 45 #[.pointer (some A.c),.agg #[xo,xk,xd,xa,xb,xc,xp,xn,xm]] w (Og A m xs (Jy m S ⟨xo,xk,xd,xa,xb,xc,xp,xn,xm⟩) w):=by
 have hm:=Bc h.kd.ok;have hd0:=hv.d;have ha0:=hv.a;have hbb:=hv.b;have hop:=hv.op;dsimp only at hd0 ha0 hbb hop;obtain⟨d,rfl⟩:∃n:Nat,xd=n:=⟨xd.toNat,by omega⟩;obtain⟨a,rfl⟩:∃n:Nat,xa=n:=⟨xa.toNat,by omega⟩;obtain⟨b,rfl⟩:∃n:Nat,xb=n:=⟨xb.toNat,by omega⟩;by_cases h1:xo=1
 ·subst h1;rw[Eu (show ¬(1:Int)=18 by decide)];exact(Ae7 h hw xk xc xp xn xm d a b hv hb0).mono (fun e w' hq=>hq.doneF)
 by_cases h2:xo=2
 ·subst h2;rw[Eu (show ¬(2:Int)=18 by decide)];exact(Ae8 h hw xk xc xp xn xm d a b hv hb0).mono (fun e w' hq=>hq.doneF)
 by_cases h5:xo=5
 ·subst h5;rw[Eu (show ¬(5:Int)=18 by decide)];exact(Ae9 h hw xk xc xp xn xm d a b hv hb0).mono (fun e w' hq=>hq.doneF)
 by_cases h6:xo=6
 ·subst h6;rw[Eu (show ¬(6:Int)=18 by decide)];exact(Afb h hw xk xc xp xn xm d a b hv hb0).mono (fun e w' hq=>hq.doneF)
 by_cases h7:xo=7
 ·subst h7;rw[Eu (show ¬(7:Int)=18 by decide)];exact(Afa h hw xk xc xp xn xm d a b hv hb0).mono (fun e w' hq=>hq.doneF)
 by_cases h8:xo=8
 ·subst h8;rw[Eu (show ¬(8:Int)=18 by decide)];exact(Afc h hw xk xc xp xn xm d a b hv hb0).mono (fun e w' hq=>hq.doneF)
 by_cases h9:xo=9
 ·subst h9;rw[Eu (show ¬(9:Int)=18 by decide)];exact(Afd h hw xk xc xp xn xm d a b hv hb0).mono (fun e w' hq=>hq.doneF)
 by_cases h10:xo=10
 ·subst h10;rw[Eu (show ¬(10:Int)=18 by decide)];exact(Ac2 h hw xk xc xp xn xm d a b hv hb0).mono (fun e w' hq=>hq.doneF)
 by_cases h12:xo=12
 ·subst h12;rw[Eu (show ¬(12:Int)=18 by decide)];exact(Ac3 h hw xk xc xp xn xm d a b hv hb0).mono (fun e w' hq=>hq.doneF)
 by_cases h13:xo=13
 ·subst h13;rw[Eu (show ¬(13:Int)=18 by decide)];exact(Ac1 h hw xk xc xp xn xm d a b hv hb0).mono (fun e w' hq=>hq.doneF)
 by_cases h14:xo=14
 ·subst h14;rw[Eu (show ¬(14:Int)=18 by decide)];exact(Ac9 h hw xk xc xp xn xm d a b hv hb0).mono (fun e w' hq=>hq.doneF)
 by_cases h18:xo=18
 ·subst h18;exact Ac8 h hw xk xc xp xn xm d a b hv hb0
 rw[Eu h18];obtain⟨L,hL⟩:∃n:Nat,m.lanes=n:=⟨m.lanes.toNat,by omega⟩;by_cases h15:xo=15
 ·subst h15;have ha8:=hv.av (by simp);dsimp only at ha8
  have e:Az m S ⟨15,xk,d,a,b,xc,xp,xn,xm⟩={S with acc:=fun j=>if 0<=j/\j<(L:Int) then Hz (S.v (a:Nat)) (fun i=>S.wt i j) (S.acc j) L else S.acc j }:=by
   simp only[Az,hL];simp
  rw[e];exact(Jb h hw 15 xk d a b xc xp xn xm hv (by omega) (fun W Ra lr cr hW hR hl hne=>Ac7 (h.nil hW) hw xk d b xc xp xn xm a (by omega) (.slice Ra lr cr) L hL (by omega))).mono (fun e w' hq=>hq.doneF)
 by_cases h16:xo=16
 ·subst h16;have e:Az m S ⟨16,xk,d,a,b,xc,xp,xn,xm⟩={S with acc:=fun _=>0 }:=by simp[Az]
  rw[e];exact(Jb h hw 16 xk d a b xc xp xn xm hv (by omega) (fun W Ra lr cr hW hR hl hne=>Ac4 (h.nil hW) xk d a b xc xp xn xm (.slice Ra lr cr))).mono (fun e w' hq=>hq.doneF)
 by_cases h17:xo=17
 ·subst h17;have hd8:=hv.dv (by simp);dsimp only at hd8;have e:Az m S ⟨17,xk,d,a,b,xc,xp,xn,xm⟩={S with v:=Be S.v (d:Nat) S.acc }:=by simp[Az]
  rw[e];exact(Jb h hw 17 xk d a b xc xp xn xm hv (by omega) (fun W Ra lr cr hW hR hl hne=>Ac5 (h.nil hW) d (by omega) xk a b xc xp xn xm (.slice Ra lr cr))).mono (fun e w' hq=>hq.doneF)
 have e:Az m S ⟨xo,xk,d,a,b,xc,xp,xn,xm⟩=S:=by
  have h34:xo=3\/xo=4\/xo=19:=by omega
  rcases h34 with rfl|rfl|rfl<;>simp[Az]
 rw[e];exact(Jb h hw xo xk d a b xc xp xn xm hv (by omega) (fun W Ra lr cr hW hR hl hne=>Xi (h.nil hW) xo xk d a b xc xp xn xm (by omega) (.slice Ra lr cr))).mono (fun e w' hq=>hq.doneF)
section
attribute [local irreducible] Ax
def Afg (A:CA)(m:Mc)(xs:List Ins)(r:Bool×MS)(w:World)(e:Ending)(w':World):Prop:=e=.returned (.bool r.1)/\∃A',Aj A w w'/\Ag w' A' m xs r.2/\A'.c=A.c/\∀b,b<w.heap.size->A'.kd b=A.kd b
def Oh (A:CA)(m:Mc)(xs:List Ins)(S:MS)(w w':World):Prop:=∃A',Aj A w w'/\Ag w' A' m xs S/\A'.c=A.c/\∀b,b<w.heap.size->A'.kd b=A.kd b
section
variable {w w1 w2:World} {A A1:CA} {m:Mc} {xs:List Ins} {S S1:MS}
theorem Oh.of (h:Aj A w w1)(hC:Ag w1 A m xs S):Oh A m xs S w w1:=⟨A,h,hC,rfl,fun _ _=>rfl⟩
theorem Oh.trans (h1:Aj A w w1)(hc:A1.c=A.c)(hk:∀b,b<w.heap.size->A1.kd b=A.kd b)(h2:Oh A1 m xs S w1 w2):Oh A m xs S w w2:=by
 obtain⟨A2,a,b,c,d⟩:=h2;exact⟨A2,h1.re a hk,b,c.trans hc,fun x hx=>(d x (nl hx h1.size)).trans (hk x hx)⟩
end
theorem Adc {w:World}{A:CA}{m:Mc}{xs:List Ins}{S:MS}(h:Ag w A m xs S)(hov:(S.over||S.fault.isSome)=true) :
  Calls prog 17 #[.pointer (some A.c)] w (Afg A m xs (Cf m xs S) w):=by
 have HR:Hd (Cf m xs S=(false,S)):=hd (by unfold Cf;rw[ijp hov]);rw[HR.o];have HH:=hd h;have q168:=h.cell (i:=168) (by omega) (v:=.bool S.over) rfl;have q169:=h.cell (i:=169) (by omega) (v:=.bool S.fault.isSome) rfl;have ql:=h.lt;have HO:=hd hov;clear h hov HR;generalize ho:S.over=o at *;generalize hf:S.fault.isSome=f at *;clear ho hf;cases o
 ·cases f
  ·have:=HO.o;cases this
  ·go_enter func17,ntmps17
   go_wp2_with fail
   go_ret
   exact⟨rfl,A,Aj.refl _ _,HH.o,rfl,fun _ _=>rfl⟩
 ·go_enter func17,ntmps17
  go_wp2_with fail
  go_ret
  exact⟨rfl,A,Aj.refl _ _,HH.o,rfl,fun _ _=>rfl⟩
end
section
def Br (S:MS)(x:Ins):MS:=if x.op=18 then S.wait x.d else S
def La (m:Mc)(S:MS)(x:Ins):MS:=if Cr (Br S x) x=true then Br S x else Az m (Br S x) x
def Iq (m:Mc)(S:MS)(x:Ins):MS:={La m S x with cyc:=(La m S x).cyc+Bx m.lanes x }
def Ev (m:Mc)(S:MS)(x:Ins):MS:=if x.op=19 then(Iq m S x).wait x.d else Iq m S x
section
variable {m:Mc} {xs:List Ins} {S:MS} {x:Ins}
theorem He (hb:Cr (Br S x) x=true\/Cg m (Br S x) (Ae m (Br S x) x) (Ab m (Br S x) x)=0):Gn m xs S x=(true,Fq m xs (De xs (Ev m S x) x)):=by
 unfold Gn;dsimp only;rw[if_neg]
 ·rfl
 ·rintro⟨h1,h2⟩;rcases hb with hb|hb
  ·rw[show(if x.op=18 then S.wait x.d else S)=Br S x from rfl,hb] at h1;cases h1
  ·exact h2 hb
theorem Ahd (h:x.op≠18):(Az m S x).q=S.q:=by
 have s:∀{c:Prop} [Decidable c] {A B:MS},A.q=S.q->B.q=S.q->(if c then A else B).q=S.q:=fun {c} _ {A B} ha hb=>by split<;>assumption
 unfold Az;dsimp only;rw[ijn (c:=x.op=18) h];exact s rfl (s rfl (s rfl (s rfl (s rfl (s rfl (s rfl (s rfl (s rfl (s rfl (s rfl (s rfl (s rfl rfl))))))))))))
theorem Hb (h:OkS m xs S)(c:Int)(hc:Fi c S):OkS m xs (Br S x)/\(Br S x).pc=S.pc/\(Br S x).turns=S.turns/\Fi c (Br S x)/\(Br S x).over=S.over/\(Br S x).fault=S.fault:=by
 unfold Br;by_cases h18:x.op=18
 ·rw[ijp h18];obtain⟨a,b,c',d,_⟩:=MS.wait_pc S x.d;exact⟨h.wait _,a,b,hc.wait _,c',d⟩
 ·rw[ijn h18];exact⟨h,rfl,rfl,hc,rfl,rfl⟩
structure Mid (m:Mc)(xs:List Ins)(S T:MS)(c:Int):Prop where
 wf:WfM m T
 pc:T.pc=S.pc
 turns:T.turns=S.turns
 cyc:Fi c T
 over:T.over=S.over
 fault:T.fault=S.fault
theorem Kj (hok:m.okB=true)(h:OkS m xs S)(hv:VI m x)(hb:Cr (Br S x) x=true\/Cg m (Br S x) (Ae m (Br S x) x) (Ab m (Br S x) x)=0){c:Int}(hc:Fi c S):Mid m xs S (La m S x) (c+5000):=by
 obtain⟨h1,h2,h3,h4,h5,h6⟩:=Hb (x:=x) h c hc;have hm:=Bc hok;have hp:=Fh (lanes:=m.lanes) (by omega) x;unfold La;by_cases hi:Cr (Br S x) x=true
 ·rw[ijp hi];exact⟨h1.wf,h2,h3,h4.more (by omega),h5,h6⟩
 ·rw[ijn hi];obtain⟨e1,e2,e3,e4,e5⟩:=Uz m (Br S x) x;refine⟨h1.wf.eff hok hv (hb.resolve_left hi),e1.trans h2,e2.trans h3,?_,e3.trans h5,e4.trans h6⟩
  by_cases h18:x.op=18
  ·have hks:=hv.ks h18;have e:Az m (Br S x) x={Br S x with q:=Be (Br S x).q x.d (some ⟨(Ae m (Br S x) x).getD 0 ⟨0,0,0⟩,(Ab m (Br S x) x).getD 0 ⟨0,0,0⟩,(Br S x).words ((Ae m (Br S x) x).getD 0 ⟨0,0,0⟩),(Br S x).cyc+Bx m.lanes x+8+x.m⟩) }:=by simp[Az,h18]
   rw[e];have hc1:=h4.1;have hc2:=h4.2.1;refine⟨hc1,by show(Br S x).cyc<=_;omega,fun d t hd=>?_⟩
   simp only[Be] at hd;split at hd
   ·cases hd;dsimp only;omega
   ·have:=h4.2.2 d t hd;omega
  ·exact(h4.more (by omega)).frame e5 (Ahd h18)
theorem Kk {c:Int}(hok:m.okB=true)(h:Mid m xs S (La m S x) c):Mid m xs S (Iq m S x) (c+20):=by
 have hm:=Bc hok;have hp:=Fh (lanes:=m.lanes) (by omega) x;exact⟨h.wf.frame rfl rfl rfl rfl rfl rfl,h.pc,h.turns,(h.cyc.add (T:=Iq m S x) hp.1 rfl rfl).more (by omega),h.over,h.fault⟩
theorem Kl {c:Int}(h:Mid m xs S (Iq m S x) c):Mid m xs S (Ev m S x) c:=by
 unfold Ev;by_cases h19:x.op=19
 ·rw[ijp h19];obtain⟨a,b,c',d,_⟩:=MS.wait_pc (Iq m S x) x.d;exact⟨h.wf.wait _,a.trans h.pc,b.trans h.turns,h.cyc.wait _,c'.trans h.over,d.trans h.fault⟩
 ·rw[ijn h19];exact h
theorem Ri {c:Int}{s:Nat}{i:Int}{st:List (Nat×Int)}{l:Ins}(h:Fi c S):Fi (c+1) (Cz xs S s i st l):=by
 unfold Cz;split
 ·exact(h.more (by omega)).frame rfl rfl
 ·exact h.add (by omega) rfl rfl
theorem Ade {c:Int}(h:Fi c S):Fi (c+1) (De xs S x):=by
 unfold De;split
 ·exact Ri h
 split
 ·split
  ·exact h.more (by omega)
  ·exact Ri h
 ·exact(h.more (by omega)).frame rfl rfl
theorem Afh {c:Int}(h:Fi c S):Fi c (Fq m xs S):=by
 unfold Fq;split
 ·exact(h.waits _).frame rfl rfl
 ·exact h
theorem Fi.step (hok:m.okB=true)(hc:Bh m 0 xs=0)(h:OkS m xs S){c:Int}(hb:Fi c S):Fi (c+5021) (Cf m xs S).2:=by
 unfold Cf;by_cases hov:(S.over||S.fault.isSome)=true
 ·rw[ijp hov];exact hb.more (by omega)
 rw[ijn hov];replace hov:(S.over||S.fault.isSome)=false:=by simpa using hov
 rw[Bool.or_eq_false_iff] at hov;have hpc:=h.live hov.1;obtain⟨x,hx⟩:∃x,xs[S.pc]? = some x:=⟨_,List.getElem?_eq_getElem hpc⟩;have hgd:xs.getD S.pc zI=x:=by rw[List.getD_eq_getElem?_getD,hx];rfl
 rw[hgd];have hv:=Er hok hc x (ilm hx);by_cases hbd:Cr (Br S x) x=true\/Cg m (Br S x) (Ae m (Br S x) x) (Ab m (Br S x) x)=0
 ·rw[He hbd];have h3:=Kl (Kk hok (Kj hok h hv hbd hb));exact(Afh (Ade h3.cyc)).more (by omega)
 ·have h0:=(Hb (x:=x) h c hb).2.2.2.1;unfold Gn;dsimp only;rw[if_pos]
  ·exact(h0.more (by omega)).frame rfl rfl
  ·rw[show(if x.op=18 then S.wait x.d else S)=Br S x from rfl];refine⟨?_,fun h=>hbd (.inr h)⟩
   cases hi:Cr (Br S x) x with
   | false=>rfl
   | true=>exact absurd (.inl hi) hbd
end
section
variable {w:World} {A:CA} {m:Mc} {xs:List Ins} {S:MS}
theorem Ag.setReady (h:Ag w A m xs S)(d:Nat)(hd:d<m.queues.toNat){t:Tr}(ht:S.q (d:Nat)=some t)(v:Int) :
  Ag (w.setCell ⟨A.tb d,7,none⟩ v) A m xs {S with q:=Be S.q (d:Nat) (some {t with ready:=v }) }:=by
 obtain⟨t1,t2,t3,t4⟩:=h.que.trs d hd t ht;have hsm:=h.kd.small;have hE:Ext [A.tb d] w (w.setCell ⟨A.tb d,7,none⟩ v):=er.setCell (.inl (by simp)) _;have hT:∀x∈[A.tb d],A.kd x=30+d:=fun x hx=>by rw[ms hx];exact t3
 refine⟨h.chip.ext hE (fun hm=>by have h0:=hT _ hm;have h1:=h.kd.kc;omega),h.stat.ext h.kd hE (fun x hx=>by have:=hT x hx;omega),h.mem.ext h.kd hE (fun x hx=>by have:=hT x hx;omega),⟨?_,fun i hi u hu=>?_⟩,h.loops.ext hE (fun x hx=>by have:=hT x hx;omega),h.kd⟩
 ·refine(h.que.queue.ext hE (fun hm=>by have h0:=hT _ hm;have h1:=h.kd.kq;omega)).same (fun j _=>?_)
  unfold Od;dsimp only;by_cases hj:j=d
  ·subst hj;rw[Bt,ht]
  ·rw[Cw _ _ (by omega)]
 ·dsimp only at hu;by_cases hid:i=d
  ·subst hid;rw[Bt] at hu;cases hu
   refine⟨t1.set_' 7 _ _ ?_,t2.ext hE (fun a ha hm=>by have h0:=hT _ hm;have:=t4 a ha;omega),t3,fun a ha=>⟨(t4 a ha).1,nl (t4 a ha).2 hE.size⟩⟩
   rfl
  ·rw[Cw _ _ (by omega)] at hu;obtain⟨h1,h2,h3,h4⟩:=h.que.trs i hi u hu;exact⟨h1.ext hE (fun hm=>by have h0:=hT _ hm;omega),h2.ext hE (fun a ha hm=>by have h0:=hT _ hm;have:=h4 a ha;omega),h3,fun a ha=>⟨(h4 a ha).1,nl (h4 a ha).2 hE.size⟩⟩
theorem Ag.qcell (h:Ag w A m xs S)(d:Nat)(hd:d<m.queues.toNat){t:Tr}(ht:S.q (d:Nat)=some t):w.cell? ⟨A.qb,d,none⟩=some (.pointer (some ⟨A.tb d,0,none⟩)):=by
 rw[h.que.queue.cell hd];unfold Od;rw[ht]
end
end
section
section
variable {xs:List Ins} {p:Nat} {x:Ins}
def cN (xs:List Ins)(p:Nat):Int:=(cnt xs xs.length p).1
theorem Ol (xs:List Ins)(p f:Nat)(h:xs.length<=p+f):(cnt xs f p).1=cN xs p:=by unfold cN;rw[Ob (f:=f) (g:=xs.length) h (by omega)]
theorem Ahj (hx:xs[p]? = some x)(h4:x.op=4):cN xs p=0:=by
 unfold cN;rw[Jj hx h4]
theorem Afk (hx:xs[p]? = some x)(h3:x.op≠3)(h4:x.op≠4):cN xs p=1+cN xs (p+1):=by
 have hp:=(ils hx).1;obtain⟨n,hn⟩:∃n,xs.length=n+1:=⟨xs.length-1,by omega⟩;rw[<-Ol xs p (n+1) (by omega),Gg hx h3 h4,<-Ol xs (p+1) n (by omega)]
theorem Ago (hx:xs[p]? = some x)(h3:x.op=3):cN xs p=1+x.m*(cN xs (p+1)+1)+cN xs (Gh xs (p+1)+1):=by
 have hp:=(ils hx).1;obtain⟨n,hn⟩:∃n,xs.length=n+1:=⟨xs.length-1,by omega⟩;have h1:=Qx xs n (p+1);rw[<-Ol xs p (n+1) (by omega),Hj hx h3,<-Ol xs (p+1) n (by omega),<-Is xs (p+1) n (by omega),<-Ol xs ((cnt xs n (p+1)).2+1) n (by omega)]
end
def Ft (xs:List Ins):List (Nat×Int)->Nat->Int
 | [],p=>cN xs p
 | (s,i) :: st,p=>cN xs p+(1+((xs.getD s zI).m-i)*(cN xs (s+1)+1)+Ft xs st (Gh xs (s+1)+1))
def Ag2 (xs:List Ins):List (Nat×Int)->Int
 | []=>0
 | (s,i) :: st=>1+((xs.getD s zI).m-i)*(cN xs (s+1)+1)+Ft xs st (Gh xs (s+1)+1)
theorem Mo (xs:List Ins)(st:List (Nat×Int))(p:Nat):Ft xs st p=cN xs p+Ag2 xs st:=by
 cases st with
 | nil=>simp[Ft,Ag2]
 | cons a st=>rfl
theorem Xq {m:Mc}{xs:List Ins}(hok:m.okB=true)(hc:Bh m 0 xs=0):Ep xs:=fun x hx h3=>(Er hok hc x hx).lo h3
theorem Pb {xs:List Ins}(h:Ep xs)(p:Nat):0<=cN xs p:=(Gy h _ _).1
theorem Om {xs:List Ins}(h:Ep xs):∀(st:List (Nat×Int)) (p:Nat),Bz xs st p->0<=Ft xs st p
 | [],p,_=>Pb h p
 | (s,i) :: st,p,hs=>by
  unfold Bz at hs;obtain⟨⟨l,hl,h3,h1,h2⟩,_,_,h5⟩:=hs;have hg:xs.getD s zI=l:=by rw[List.getD_eq_getElem?_getD,hl];rfl
  have a:=Om h st _ h5;have b:=Pb h p;have c:=Pb h (s+1);have d:0<=((xs.getD s zI).m-i)*(cN xs (s+1)+1):=Int.mul_nonneg (by rw[hg];omega) (by omega);unfold Ft;omega
section
variable {m:Mc} {xs:List Ins} {S:MS} {x:Ins}
theorem Pn {s:Nat}{i:Int}{st:List (Nat×Int)}{l:Ins}(hl:xs[s]? = some l)(hi:i<=l.m) :
  Ft xs (Cz xs S s i st l).turns (Cz xs S s i st l).pc=(l.m-i)*(cN xs (s+1)+1)+Ft xs st (Gh xs (s+1)+1):=by
 unfold Cz;by_cases hm:l.m<=i
 ·rw[ijp hm];have:l.m-i=0:=by omega
  rw[this,Int.zero_mul,Int.zero_add];rfl
 ·rw[ijn hm];show Ft xs ((s,i+1) :: st) (s+1)=_
  have hg:xs.getD s zI=l:=by rw[List.getD_eq_getElem?_getD,hl];rfl
  rw[show Ft xs ((s,i+1) :: st) (s+1)=cN xs (s+1)+(1+((xs.getD s zI).m-(i+1))*(cN xs (s+1)+1)+Ft xs st (Gh xs (s+1)+1)) from rfl,hg];generalize cN xs (s+1)=a;generalize Ft xs st (Gh xs (s+1)+1)=b;rw[show l.m-i=(l.m-(i+1))+1 by omega,Int.add_mul];omega
theorem Aai (hl:Ep xs)(hst:Bz xs S.turns S.pc)(hx:xs[S.pc]? = some x):Ft xs (De xs S x).turns (De xs S x).pc+1=Ft xs S.turns S.pc:=by
 unfold De;by_cases h3:x.op=3
 ·have hm:=hl x (ilm hx) h3;rw[ijp h3,Pn hx (by omega),Mo xs S.turns (Gh xs (S.pc+1)+1),Mo xs S.turns S.pc,Ago hx h3,Int.sub_zero];omega
 rw[ijn h3];by_cases h4:x.op=4
 ·rw[ijp h4];obtain⟨s,i,st,l,he,hl,hl3,hi0,hi1,hs,hce,hsk⟩:=hst.top hx h4;rw[he];have hgd:xs.getD s zI=l:=by rw[List.getD_eq_getElem?_getD,hl];rfl
  simp only[hgd];rw[Pn hl hi1,show Ft xs ((s,i) :: st) S.pc=cN xs S.pc+(1+((xs.getD s zI).m-i)*(cN xs (s+1)+1)+Ft xs st (Gh xs (s+1)+1)) from rfl,Ahj hx h4,hgd];omega
 ·rw[ijn h4];show Ft xs S.turns (S.pc+1)+1=_
  rw[Mo,Mo,Afk hx h3 h4];omega
theorem Ado:Ft xs (Fq m xs S).turns (Fq m xs S).pc=Ft xs S.turns S.pc:=by
 unfold Fq;split
 ·obtain⟨a,b,_⟩:=MS.waits_pc S m.queues.toNat
  show Ft xs (S.waits _).turns (S.waits _).pc=_
  rw[a,b]
 ·rfl
theorem Aaj (hok:m.okB=true)(hc:Bh m 0 xs=0)(h:OkS m xs S){c:Int}(hb:Fi c S)(hg:(Cf m xs S).1=true):Ft xs (Cf m xs S).2.turns (Cf m xs S).2.pc+1=Ft xs S.turns S.pc:=by
 unfold Cf at hg⊢;by_cases hov:(S.over||S.fault.isSome)=true
 ·rw[ijp hov] at hg;cases hg
 rw[ijn hov] at hg⊢;replace hov:(S.over||S.fault.isSome)=false:=by simpa using hov
 rw[Bool.or_eq_false_iff] at hov;have hpc:=h.live hov.1;obtain⟨x,hx⟩:∃x,xs[S.pc]? = some x:=⟨_,List.getElem?_eq_getElem hpc⟩;have hgd:xs.getD S.pc zI=x:=by rw[List.getD_eq_getElem?_getD,hx];rfl
 rw[hgd] at hg⊢;have hv:=Er hok hc x (ilm hx);by_cases hbd:Cr (Br S x) x=true\/Cg m (Br S x) (Ae m (Br S x) x) (Ab m (Br S x) x)=0
 ·rw[He hbd];have h3:=Kl (Kk hok (Kj hok h hv hbd hb));show Ft xs (Fq m xs _).turns (Fq m xs _).pc+1=_
  rw[Ado,Aai (Xq hok hc) (by rw[h3.turns,h3.pc];exact h.stack) (by rw[h3.pc];exact hx),h3.turns,h3.pc]
 ·exfalso
  unfold Gn at hg;dsimp only at hg;rw[if_pos] at hg
  ·cases hg
  ·rw[show(if x.op=18 then S.wait x.d else S)=Br S x from rfl];refine⟨?_,fun h=>hbd (.inr h)⟩
   cases hi:Cr (Br S x) x with
   | false=>rfl
   | true=>exact absurd (.inl hi) hbd
end
def Adp (m:Mc)(xs:List Ins):Nat->MS->MS
 | 0,S=>S
 | n+1,S=>if(Cf m xs S).1 then Adp m xs n (Cf m xs S).2 else(Cf m xs S).2
def Ew (m:Mc)(xs:List Ins)(main:List Int):MS:=Adp m xs 40000001 (MS.new main xs.length)
structure AtX (m:Mc)(xs:List Ins)(F:MS)(n:Nat)(S:MS):Prop where
 run:Adp m xs n S=F
 ok:OkS m xs S
 left:Ft xs S.turns S.pc<n
 cap:n<=40000001
 cyc:Fi (5021*(40000001-(n:Int))) S
theorem AtX.start {m:Mc}{xs:List Ins}{main:List Int}(hok:m.okB=true)(hc:Bh m 0 xs=0)(ht:(Fp xs).sum<=40000000)(hm:∀w∈main,isW w):AtX m xs (Ew m xs main) 40000001 (MS.new main xs.length):=by
 refine⟨rfl,OkS.new hc hm,?_,Nat.le_refl _,⟨Int.le_refl _,by show(0:Int)<=_;omega,fun d t h=>by cases h⟩⟩
 have:=Ag6 hc ht;show cN xs 0<_
 unfold cN;omega
theorem AtX.pos {m:Mc}{xs:List Ins}{F S:MS}{n:Nat}(hok:m.okB=true)(hc:Bh m 0 xs=0)(h:AtX m xs F n S):∃k,n=k+1:=by
 have h1:=Om (Xq hok hc) _ _ h.ok.stack;have h2:=h.left;exact⟨n-1,by omega⟩
theorem AtX.on {m:Mc}{xs:List Ins}{F S:MS}{n:Nat}(hok:m.okB=true)(hc:Bh m 0 xs=0)(h:AtX m xs F (n+1) S)(hg:(Cf m xs S).1=true):AtX m xs F n (Cf m xs S).2:=by
 have h1:=Aaj hok hc h.ok h.cyc hg;have h2:=h.left;have h3:=h.cap;refine⟨?_,h.ok.step hok hc,by omega,by omega,(h.cyc.step hok hc h.ok).more (by omega)⟩
 have:=h.run;unfold Adp at this;rw[ijp hg] at this;exact this
theorem AtX.off {m:Mc}{xs:List Ins}{F S:MS}{n:Nat}(h:AtX m xs F (n+1) S)(hg:(Cf m xs S).1=false):(Cf m xs S).2=F:=by
 have:=h.run;unfold Adp at this;rw[ijn (by rw[hg];decide)] at this;exact this
def Jf (m:Mc)(main:List Int):Int:=if(main.length:Int)≠m.main then 3 else if main.any (fun x=>!inR x (-2147483648) 2147483647) then 9 else 0
def Di (m:Mc)(xs:List Ins)(main:List Int):Int:=if Cv m xs≠0 then Cv m xs else Jf m main
theorem Ly {m:Mc}{xs:List Ins}{main:List Int}(h:Di m xs main=0):Cv m xs=0/\(main.length:Int)=m.main/\∀w∈main,isW w:=by
 unfold Di at h;by_cases hc:Cv m xs=0
 ·rw[ijn (by simpa using hc)] at h;unfold Jf at h;by_cases hl:(main.length:Int)=m.main
  ·rw[ijn (by simpa using hl)] at h;refine⟨hc,hl,fun w hw=>?_⟩
   by_cases ha:main.any (fun x=>!inR x (-2147483648) 2147483647)=true
   ·rw[ijp ha] at h;cases h
   ·have h2:∀x∈main,¬(!inR x (-2147483648) 2147483647)=true:=by simpa[List.any_eq_true] using ha
    have h3:=h2 w hw;have h4:inR w (-2147483648) 2147483647=true:=by simpa using h3
    rw[Bi] at h4;exact h4
  ·rw[ijp (by simpa using hl)] at h;cases h
 ·rw[ijp hc] at h;exact absurd h hc
end
end Go.Proofs.YtkgmhggliifkjaaGreat
