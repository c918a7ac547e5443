import Derived.Test.YtfppibmloloakaaGreatDoorK37
namespace Go.Proofs.YtfppibmloloakaaGreatDoor
open Go.RowKit Go.Proofs.Tryz
set_option linter.all false
set_option maxHeartbeats 64000000

theorem Dk {α:Type}{f:α->List Value}{s:Nat}(hs:∀x,(f x).length=s):∀{l:List α} {k j:Nat} {x:α},l[k]? = some x->j<s->(l.flatMap f)[k*s+j]? = (f x)[j]?
 | [],k,j,x,h,_=>by simp at h
 | y :: l,0,j,x,h,hj=>by
  cases h
  rw[List.flatMap_cons,Nat.zero_mul,Nat.zero_add,List.getElem?_append_left (by rw[hs];exact hj)]
 | y :: l,k+1,j,x,h,hj=>by
  have h1:=Dk hs (l:=l) (k:=k) (j:=j) (x:=x) h hj;rw[List.flatMap_cons,jM (by rw[hs,Nat.add_mul,Nat.one_mul];omega),hs,show(k+1)*s+j-s=k*s+j by rw[Nat.add_mul,Nat.one_mul];omega];exact h1
section
def Ao {α:Type}(P:Nat->Prop)(N:Nat)(w:World)(A:Option Addr)(k:Nat)(cs:α->List Value)(l:List α):Prop:=
 l.length<=N/\(l=[]\/∃b:Nat,A=some b/\P b/\b<w.heap.size/\∀(i:Nat) (x:α),l[i]? = some x->∀(j:Nat) (v:Value),(cs x)[j]? = some v->w.cell? ⟨b,i*k+j,none⟩=some v)
section
variable {α:Type} {P Q:Nat->Prop} {N M:Nat} {w w':World} {A:Option Addr} {k:Nat} {cs:α->List Value} {l:List α}
theorem Ao.ext (h:Ao P N w A k cs l){S:List Nat}(hE:Ext S w w')(hS:∀x∈S,¬P x):Ao P N w' A k cs l:=by
 obtain⟨h0,h⟩:=h;refine⟨h0,?_⟩
 rcases h with h|⟨b,rfl,hp,hb,hc⟩
 ·exact .inl h
 ·exact .inr ⟨b,rfl,hp,nl hb hE.size,fun i x hx j v hv=>hE.held (hc i x hx j v hv) fun hm=>hS _ hm hp⟩
theorem Ao.mono (h:Ao P N w A k cs l)(hP:∀b,b<w.heap.size->P b->Q b)(hN:N<=M):Ao Q M w A k cs l:=by
 obtain⟨h0,h⟩:=h;refine⟨nt h0 hN,?_⟩
 rcases h with h|⟨b,rfl,hp,hb,hc⟩
 ·exact .inl h
 ·exact .inr ⟨b,rfl,hP b hb hp,hb,hc⟩
theorem Ao.inn (h:Ao P N w A k cs l)(hN:N<=1000000):Ak w A k cs l:=by
 obtain⟨h0,h⟩:=h;refine⟨nt h0 hN,?_⟩
 rcases h with h|⟨b,rfl,hp,hb,hc⟩
 ·exact .inl h
 ·exact .inr ⟨b,rfl,hc⟩
theorem Ao.nil (P:Nat->Prop)(N:Nat)(w:World)(A:Option Addr)(k:Nat)(cs:α->List Value):Ao P N w A k cs []:=⟨by simp,.inl rfl⟩
theorem Ao.own {f:α->List Value}{s:Nat}(hs:∀x,(f x).length=s){w:World}{B:Nat}{e:TypeId}{A:Option Addr}{n c:Nat}{l:List α}(h:w.ownsRow B e s (.slice A n c) l.length (l.flatMap f))(hl:l.length<=N)(h0:0<s)
  (hP:∀g,A=some ⟨g,0,none⟩->B<=g->g<w.heap.size->P g):n=l.length/\Ao P N w A s f l:=by
 obtain⟨A',c',hv,hc,a6⟩:=Bg h;cases hv
 refine⟨rfl,hl,?_⟩
 by_cases hn:l=[]
 ·exact .inl hn
 ·obtain⟨g,rfl,h1,h2⟩:=a6 (List.length_pos_iff.2 hn)
  have a1:∀i x,l[i]? = some x->∀j v,(f x)[j]? = some v->w.cell? ⟨g,i*s+j,none⟩=some v:=fun i x hx j v hv=>by
   refine Dg h rfl ?_
   have hj:=(ils hv).1;rw[hs] at hj;rw[Dk hs hx hj];exact hv
  obtain⟨x,hx⟩:∃x,l[0]? = some x:=⟨_,jJ (List.length_pos_iff.2 hn)⟩;obtain⟨v,hv⟩:∃v,(f x)[0]? = some v:=⟨_,jJ (by rw[hs];exact h0)⟩;have a2:=jB w _ (a1 0 x hx 0 v hv);exact .inr ⟨g,rfl,hP g rfl h1 a2,a2,a1⟩
end
def AfA (P:Nat->Prop)(N:Nat)(w:World)(a:Af):Prop:=Ao P N w a.A 2 tmC a.ts
inductive ExA (P:Nat->Prop) (N:Nat) (w:World):Ex->Prop
 | mk (h:EH) (ks:List Ex) (ha:AfA P N w h.at_) (hk:Ao P N w h.A 10 exC ks) (hs:∀e∈ks,ExA P N w e):ExA P N w (.mk h ks)
inductive StI (P:Nat->Prop) (w:World):Nat->St->Prop
 | mk (N:Nat) (h:SH) (b:List St) (hc:Ao P N w h.cA 2 afC h.conds) (hcs:∀a∈h.conds,AfA P N w a) (ha:AfA P N w h.at_) (hv:ExA P N w h.val) (hp:Al h.val<=N) (hz:h.var.size<=N) (hn:1<=N) (hb:Ao P N w h.A 21 stC b) (hs:∀s∈b,StI P w (N-1) s):StI P w N (.mk h b)
def StA (P:Nat->Prop)(N:Nat)(w:World)(s:St):Prop:=StI P w N s
theorem StA.mk {P:Nat->Prop}{N:Nat}{w:World}(h:SH)(b:List St)(hc:Ao P N w h.cA 2 afC h.conds)(hcs:∀a∈h.conds,AfA P N w a)(ha:AfA P N w h.at_)(hv:ExA P N w h.val)(hp:Al h.val<=N)(hz:h.var.size<=N)(hn:1<=N)(hb:Ao P N w h.A 21 stC b)(hs:∀s∈b,StA P (N-1) w s):StA P N w (.mk h b):=StI.mk N h b hc hcs ha hv hp hz hn hb hs
def BfA (P:Nat->Prop)(N:Nat)(w:World)(b:Bf):Prop:=Ao P N w b.A 1 inC b.data/\b.name.size<=N
section
variable {P Q:Nat->Prop} {N M:Nat} {w w':World}
theorem ExA.ext {S:List Nat}(hE:Ext S w w')(hS:∀x∈S,¬P x){e:Ex}(h:ExA P N w e):ExA P N w' e:=by
 induction h with
 | mk h ks ha hk hs ih=>exact .mk h ks (Ao.ext ha hE hS) (hk.ext hE hS) ih
theorem ExA.mono (hP:∀b,b<w.heap.size->P b->Q b)(hN:N<=M){e:Ex}(h:ExA P N w e):ExA Q M w e:=by
 induction h with
 | mk h ks ha hk hs ih=>exact .mk h ks (Ao.mono ha hP hN) (hk.mono hP hN) ih
theorem ExA.inn (hN:N<=1000000){e:Ex}(h:ExA P N w e):Gu w e:=by
 induction h with
 | mk h ks ha hk hs ih=>exact .mk h ks (Ao.inn ha hN) (hk.inn hN) ih
theorem ExA.all {h:EH}{ks:List Ex}(k:ExA P N w (.mk h ks)):AfA P N w h.at_/\Ao P N w h.A 10 exC ks/\∀e∈ks,ExA P N w e:=by
 cases k;exact⟨by assumption,by assumption,by assumption⟩
theorem StA.ext {S:List Nat}(hE:Ext S w w')(hS:∀x∈S,¬P x){s:St}(h:StA P N w s):StA P N w' s:=by
 unfold StA at *
 induction h with
 | mk N h b hc hcs ha hv hp hz hn hb hs ih=>exact .mk N h b (hc.ext hE hS) (fun a h=>Ao.ext (hcs a h) hE hS) (Ao.ext ha hE hS) (hv.ext hE hS) hp hz hn (hb.ext hE hS) ih
theorem StA.mono (hP:∀b,b<w.heap.size->P b->Q b)(hN:N<=M){s:St}(h:StA P N w s):StA Q M w s:=by
 unfold StA at *
 induction h generalizing M with
 | mk N h b hc hcs ha hv hp hz hn hb hs ih=>exact .mk M h b (hc.mono hP hN) (fun a h=>Ao.mono (hcs a h) hP hN) (Ao.mono ha hP hN) (hv.mono hP hN) (nt hp hN) (nt hz hN) (nt hn hN) (hb.mono hP hN) fun s hs=>ih s hs (Nat.sub_le_sub_right hN 1)
theorem StA.inn (hN:N<=1000000){s:St}(h:StA P N w s):Gc w s:=by
 unfold StA at h
 induction h with
 | mk N h b hc hcs ha hv hp hz hn hb hs ih=>exact .mk h b (hc.inn hN) (fun a h=>Ao.inn (hcs a h) hN) (Ao.inn ha hN) (hv.inn hN) (nt hp hN) (nt hz hN) (hb.inn hN) fun s hs=>ih s hs (by omega)
theorem StA.all {h:SH}{b:List St}(k:StA P N w (.mk h b)):Ao P N w h.cA 2 afC h.conds/\(∀a∈h.conds,AfA P N w a)/\AfA P N w h.at_/\ExA P N w h.val/\Al h.val<=N/\h.var.size<=N/\Ao P N w h.A 21 stC b/\∀s∈b,StA P (N-1) w s:=by
 unfold StA at *;cases k;exact⟨by assumption,by assumption,by assumption,by assumption,by assumption,by assumption,by assumption,by assumption⟩
theorem StA.pos {s:St}(k:StA P N w s):1<=N:=by
 unfold StA at *;cases k;assumption
theorem BfA.ext {S:List Nat}(hE:Ext S w w')(hS:∀x∈S,¬P x){b:Bf}(h:BfA P N w b):BfA P N w' b:=⟨h.1.ext hE hS,h.2⟩
theorem BfA.mono (hP:∀b,b<w.heap.size->P b->Q b)(hN:N<=M){b:Bf}(h:BfA P N w b):BfA Q M w b:=⟨h.1.mono hP hN,nt h.2 hN⟩
theorem BfA.inn (hN:N<=1000000){b:Bf}(h:BfA P N w b):Aab w b:=⟨h.1.inn hN,nt h.2 hN⟩
theorem Ra (P:Nat->Prop)(N:Nat)(w:World)(b:Int)(A:Option Addr)(c:Nat):AfA P N w ⟨b,A,c,[]⟩:=Ao.nil ..
end
end
section
def TmR (w:World)(b:Nat)(ts:List (ByteArray×Int)):Prop:=∃cur,Blk w b 178 cur/\∀(i:Nat) (x:ByteArray×Int),ts[i]? = some x->cur[i*2]? = some (.string x.1)/\cur[i*2+1]? = some (.int .i64 x.2)
section
variable {w w':World} {b:Nat} {ts:List (ByteArray×Int)}
theorem TmR.ext (h:TmR w b ts){S:List Nat}(hE:Ext S w w')(hS:b∉S):TmR w' b ts:=by
 obtain⟨a1,h1,h2⟩:=h;exact⟨a1,h1.ext hE hS,h2⟩
theorem TmR.lt (h:TmR w b ts):b<w.heap.size:=by obtain⟨a1,h1,-⟩:=h;exact h1.lt
theorem TmR.fz (h:TmR w b ts)(i:Nat):w.frozen? ⟨b,i,none⟩=false:=by obtain⟨a1,h1,-⟩:=h;exact h1.frozen i
theorem TmR.at (h:TmR w b ts){i:Nat}(hi:i<ts.length):∃s k,ts[i]? = some (s,k)/\w.cell? ⟨b,i*2,none⟩=some (.string s)/\w.cell? ⟨b,i*2+1,none⟩=some (.int .i64 k):=by
 obtain⟨a1,h1,h2⟩:=h;obtain⟨e1,e2⟩:=h2 i _ (jJ hi);exact⟨_,_,jJ hi,(h1.cell _).trans e1,(h1.cell _).trans e2⟩
theorem TmR.set (h:TmR w b ts){j:Nat}(hj:j<ts.length)(x:ByteArray×Int):TmR ((w.setCell ⟨b,j*2,none⟩ (.string x.1)).setCell ⟨b,j*2+1,none⟩ x.2) b (ts.set j x):=by
 obtain⟨a7,h1,h2⟩:=h;obtain⟨e1,e2⟩:=h2 j _ (jJ hj);have a2:=(Array.getElem?_eq_some_iff.1 e1).1;have a6:=(Array.getElem?_eq_some_iff.1 e2).1;refine⟨_,(h1.set_ (j*2) (.string x.1)).set_ (j*2+1) (.int .i64 x.2),fun i y hy=>?_⟩
 rw[List.getElem?_set] at hy;by_cases a1:j=i
 ·subst a1;rw[ijp rfl,ijp hj] at hy;cases hy
  simp only[Array.getElem?_setIfInBounds,Array.size_setIfInBounds];constructor
  ·rw[ijn (by omega),ijp trivial,ijp a2]
  ·rw[ijp trivial,ijp a6]
 ·rw[ijn a1] at hy;obtain⟨f1,f2⟩:=h2 i y hy;simp only[Array.getElem?_setIfInBounds,Array.size_setIfInBounds];rw[ijn (by omega),ijn (by omega),ijn (by omega),ijn (by omega)];exact⟨f1,f2⟩
theorem TmR.seq (h:TmR w b ts){P:Nat->Prop}{N:Nat}(hl:ts.length<=N)(hP:P b):Ao P N w (some b) 2 tmC ts:=by
 refine⟨hl,.inr ⟨b,rfl,hP,h.lt,fun i x hx j v hv=>?_⟩⟩
 obtain⟨a1,h1,h2⟩:=h;obtain⟨e1,e2⟩:=h2 i x hx
 match j,hv with
 | 0,hv=>cases hv;exact(h1.cell _).trans e1
 | 1,hv=>cases hv;exact(h1.cell _).trans e2
theorem TmR.own {B n c:Nat}(h:w.ownsRow B 178 2 (.slice (some b) n c) n (ts.flatMap tmC)):TmR w b ts:=by
 obtain⟨hl,h⟩:=h;rcases h with⟨h,-⟩|⟨g,cap,a6,hv,hb,hg,h1,h2,h3,h4⟩
 ·cases h
 ·cases hv
  refine⟨a6,hg,fun i x hx=>?_⟩
  have a1:(ts.flatMap tmC)[i*2+0]? = some (.string x.1):=by rw[Dk (s:=2) (fun _=>rfl) hx (by decide)];rfl
  have a2:(ts.flatMap tmC)[i*2+1]? = some (.int .i64 x.2):=by rw[Dk (s:=2) (fun _=>rfl) hx (by decide)];rfl
  rw[<-h4,List.getElem?_take] at a1 a2;split at a1
  ·split at a2
   ·rw[Array.getElem?_toList] at a1 a2;exact⟨a1,a2⟩
   ·cases a2
  ·cases a1
end
set_option maxRecDepth 100000 in
theorem Aje (x y:ByteArray×Int)(w:World):Calls prog 199 #[tmV x,tmV y] w fun e w'=>∃r:Int,e=.returned (.int .i64 r)/\Ext [] w w':=by
 obtain⟨s,k⟩:=x;obtain⟨s',k'⟩:=y;unfold tmV;dsimp only;go_enter func199,ntmps199
 go_wp2_with fail
 all_goals
  go_ret
  exact⟨_,rfl,((jF [] w).alloc _).alloc _⟩
def Adb (A:Option Addr)(ts:List (ByteArray×Int))(w:World)(e:Ending)(w':World):Prop:=e=.returned (.tuple #[])/\∃ts',ts'.length=ts.length/\((ts'=[]/\Ext [] w w')\/∃b,A=some ⟨b,0,none⟩/\TmR w' b ts'/\Ext [b] w w')
end
section
section
variable {P:Program} {ops:Array Oper} {S:Nat->Option Ba} {Q:Act->World->Prop} {k:Nat} {o:Oper} {rest:List Oper} {a:Act} {F:Nat->World->Prop} {w0:World}
theorem Ahs (hS:S k=some Dr)(hw:Region.wanted o (yielded ops a.tmps)=true)
  (hh:∃(f:FuncId) (a1:Array Value),(∀w,(execOp a.eval o).run P w=.ok (.enter f a1) w)/\∀w,Calls P f a1 w fun e w'=>∃r:Int,e=.returned (.int .i64 r)/\Ext [] w w')
  (h:∀x:Int,Bj P ops (JE w0) (Ext []) S Q (k+1) rest (a.put o.dst (.int .i64 x)) (upd F k (fun _=>True))):Bj P ops (JE w0) (Ext []) S Q k (o :: rest) a F:=by
 obtain⟨f,a1,hr,hu⟩:=hh;refine Fq Dr hS hw ⟨f,a1,hr,fun w n' hJ _=>?_⟩ h
 refine(hu w).mono ?_
 rintro e w' ⟨r,rfl,hE⟩;exact⟨r,rfl,trivial,Ext.trans hJ hE,hE⟩
end
theorem Uh (n c:Nat)(N:Int)(A:Option Addr)(f:Value)(hn0:0<=N)(hn:N<=1)(w:World) :
  Calls prog 234 #[.slice A n c,(0:Int),N,f] w fun e w'=>e=.returned (.tuple #[])/\w=w':=by
 go_enter func234,ntmps234
 go_wp2
 go_loop [8] (fun i=>i=.int .i64 1) (fun i=>0)
 case atStart=>rfl
 case round=>
  subst hrel;have h1:¬(1<N):=by omega
  go_wp2
  exact bodyPost_end (results_none rfl _ _ _) rfl ⟨rfl,rfl⟩
theorem Vt {a:Nat}{x:Ba}{R:Nat->World->World->Prop}(hx:∀j,j≠a->∀u w w',R j w w'->x.V u w->x.V u w'):∀i s j,Bi [(a,x)] i=some s->j≠i->∀u w w',R j w w'->s.V u w->s.V u w':=fun i s j h hj=>by
 have hm:=Fx h;simp only[jE,Prod.mk.injEq,jH,or_false] at hm;obtain⟨rfl,rfl⟩:=hm;exact hx j hj
theorem Vu {w:World}{b i:Nat}{x:ByteArray×Int}{ts:List (ByteArray×Int)}(hx:ts[i]? = some x)(h:TmR w b ts):w.cell? ⟨b,i*2,none⟩=some (.string x.1)/\w.cell? ⟨b,i*2+1,none⟩=some (.int .i64 x.2):=by
 obtain⟨a1,h1,h2⟩:=h;obtain⟨e1,e2⟩:=h2 i x hx;exact⟨(h1.cell _).trans e1,(h1.cell _).trans e2⟩
set_option maxRecDepth 100000 in
theorem Ui (n c b:Nat)(ts:List (ByteArray×Int))(w:World)(hl:ts.length=n)(h2:2<=n)(hn:n<=12)(h:TmR w b ts) :
  Calls prog 234 #[.slice (some b) n c,(0:Int),n,.func (.func 199) #[] #[]] w fun e w'=>e=.returned (.tuple #[])/\∃a1,a1.length=n/\TmR w' b a1/\Ext [b] w w':=by
 have HT:=hd h;have HL:=hd hl;clear h hl;go_enter func234,ntmps234
 go_wp2_with fail
 go_loopw [8,9] (fun i j wr=>∃(k:Nat) (a1:List (ByteArray×Int)),i=.int .i64 k/\1<=k/\k<=n/\Hd (a1.length=n)/\Hd (TmR wr b a1)/\Hd (Ext [b] w wr)) (fun i _ _=>(n-intOf i).toNat)
 case atStart=>exact⟨1,ts,rfl,by omega,by omega,HL,HT,hd (jF _ _)⟩
 case round=>
  obtain⟨k,a1,rfl,aH,aI,am,an,ao⟩:=hrel;by_cases aK:k<n
  ·have hlt':(k:Int)<n:=by omega
   go_wp2_with fail
   rename World=>wq
   go_loopw [9] (fun j wr=>∃(m:Nat) (a1:List (ByteArray×Int)),j=.int .i64 m/\m<=k/\Hd (a1.length=n)/\Hd (TmR wr b a1)/\Hd (Ext [b] w wr)) (fun j _=>(intOf j).toNat)
   case atStart=>exact⟨k,a1,rfl,jD _,am,an,ao⟩
   case round=>
    obtain⟨m,ac,rfl,aJ,a6,a7,ap⟩:=hrel;by_cases ax:m=0
    ·subst ax;have h0:(0<(0:Int))=False:=by simp
     go_wp2_with fail
     go_quiet (fail)
     go_wp2_with fail
     go_roundw
     case rel=>exact⟨k+1,ac,by go_num,by omega,by omega,a6,a7,hd (ap.o.drewN _)⟩
     case measure=>simp[intOf];omega
    ·obtain⟨p,aq⟩:∃p,p+1=m:=⟨m-1,by omega⟩;have hp:decide (0<m)=true:=decide_eq_true (by omega);have aD:(m:Int)<n:=by omega
     have ay:(p:Int)<n:=by omega
     have aE:(m:Int)-1=(p:Int):=by omega
     have ad:=hd aq;clear aq ax;go_wp2_with fail
     refine Cu 17 (JE _) (Ext []) (Bi [(14,Dr)]) (by kernel_rfl) (by kernel_rfl) JE.less ?_ JE.start ?_
     ·exact Am.cons Dr.stays Am.nil
     simp only[TK];obtain⟨s1,k1,au,-,-⟩:=a7.o.at (i:=m) (by rw[a6.o];omega);obtain⟨s0,k0,aw,-,-⟩:=a7.o.at (i:=p) (by rw[a6.o];have:=ad.o;omega);have ai:=hd au;have aj:=hd aw;have ak:=hd (fun W (hW:Ext [] wr W)=>And.intro (a7.o.ext hW (by simp)).lt (And.intro (Vu ai.o (a7.o.ext hW (by simp))) (Vu aj.o (a7.o.ext hW (by simp)))));clear au aw
     repeat(refine dE (fun wr nr hJ=>by(have hc:=ak.o wr hJ;have af:=hc.1;have a8:=hc.2.1;have aa:=hc.2.2;clear hc;obtain⟨c1,c2⟩:=a8;obtain⟨c3,c4⟩:=aa);clear hJ;exact CL) ?_;simp only[PT])
     refine Ahs rfl rfl ?_ ?_
     ·refine EC fun wr=>?_
      exact Aje (s1,k1) (s0,k0) wr
     intro (r:Int);simp only[PT]
     repeat(refine dE (fun wr nr hJ=>by clear hJ;exact CL) ?_;simp only[PT])
     refine Aj (fun wy hJ hF=>?_)
     have al:=hd (ap.o.trans (Ext.nil hJ));have ab:=hd (a7.o.ext hJ (by simp));clear hJ hF ak;by_cases hr:r<0
     ·have az:decide (r<0)=true:=decide_eq_true hr;go_wp2_with fail
      refine rgA 16 15 [b] [(15,⟨Unit,(),fun _=>undef,fun _ w=>TmR w b (ac.set m (s0,k0))⟩)] rfl (by simp[Bi]) (fun oi h=>by cases h;rfl) ?_ ?_
      ·exact Vt fun j hj u w w' hR h=>h.ext (hR.pre hj) (by simp)
      simp only[TK];have ae:=hd (fun W (hW:Ext [] wy W)=>And.intro (ab.o.ext hW (by simp)).lt (And.intro (Vu ai.o (ab.o.ext hW (by simp))) (Vu aj.o (ab.o.ext hW (by simp)))))
      repeat(refine dEU (fun wr nr hg hJ=>by(clear hg);clear hJ;exact CL) ?_;simp only[PT])
      refine dEU (fun wr nr hg hJ=>by(have hA:=hJ.pre (hg.later 15 (by kernel_rfl));have hc:=ae.o wr hA;have af:=hc.1;have a8:=hc.2.1;have aa:=hc.2.2;clear hc hA;obtain⟨c1,c2⟩:=a8;obtain⟨c3,c4⟩:=aa);clear hJ;exact CL) ?_
      simp only[PT]
      repeat(refine dEU (fun wr nr hg hJ=>by(clear hg);clear hJ;exact CL) ?_;simp only[PT])
      refine dEU (fun wr nr hg hJ=>by(have hA:=hJ.pre (hg.later 15 (by kernel_rfl));have hc:=ae.o wr hA;have af:=hc.1;have a8:=hc.2.1;have aa:=hc.2.2;clear hc hA;obtain⟨c1,c2⟩:=a8;obtain⟨c3,c4⟩:=aa);clear hJ;exact CL) ?_
      simp only[PT]
      repeat(refine dEU (fun wr nr hg hJ=>by(clear hg);clear hJ;exact CL) ?_;simp only[PT])
      refine Dq _ rfl rfl (fun _=>rfl) (fun w12 r12 hg hJ hf=>?_) ?_
      ·have hA:=hJ.pre hg.mine;have hT:=ab.o.ext hA (by simp);have HS:=hd (hT.set (j:=m) (by rw[a6.o];omega) (s0,k0));have hE:Ext [b] w12 ((w12.setCell ⟨b,m*2,none⟩ (.string s0)).setCell ⟨b,m*2+1,none⟩ k0):=jL (.inl (by simp)) (jL (.inl (by simp)) (jF _ _));refine⟨(),(w12.setCell ⟨b,m*2,none⟩ (.string s0)).setCell ⟨b,m*2+1,none⟩ k0,?_,HS.o,hJ.app hE,by unfold RA1;rw[ijp rfl];exact hE⟩
       have hc:=ae.o w12 hA;have af:=hc.1;obtain⟨c1,c2⟩:=hc.2.1;have aF:=hT.fz (m*2);have aG:=hT.fz (m*2+1);clear hc hA hT hE hJ hf hg;go_simp
      rintro⟨⟩;simp only[PT];refine Ci (fun w13 r13 hr hJ hF=>?_)
      have hT:TmR w13 b (ac.set m (s0,k0)):=hF 15;have aA:=hd hT;have ag:=hd (al.o.trans hJ.all);have a2:p<(ac.set m (s0,k0)).length:=by rw[List.length_set,a6.o];have:=ad.o;omega
      have aB:=hd (hT.set (j:=p) a2 (s1,k1));have aC:=hd (ag.o.trans (jL (b:=b) (i:=p*2+1) (u:=.int .i64 k1) (.inl (by simp)) (jL (b:=b) (i:=p*2) (u:=.string s1) (.inl (by simp)) (jF [b] w13))));obtain⟨s9,k9,-,c5,c6⟩:=hT.at a2;have c7:=hT.fz (p*2);have c8:=hT.fz (p*2+1);have c9:=hT.lt;clear hJ hF hr hT a2 ae;go_wp2_with fail
      go_roundw
      case rel=>exact⟨p,_,by go_num,by have:=ad.o;omega,hd (by rw[List.length_set,List.length_set];exact a6.o),aB,aC⟩
      case measure=>simp[intOf];have:=ad.o;omega
     ·have az:decide (r<0)=false:=decide_eq_false hr;go_wp2_with fail
      go_roundw
      case rel=>exact⟨k+1,ac,by go_num,by omega,by omega,a6,ab,al⟩
      case measure=>simp[intOf];omega
  ·have ah:k=n:=by omega
   subst ah;go_wp2_with fail
   exact bodyPost_end (results_none rfl _ _ _) rfl ⟨rfl,a1,am.o,an.o,ao.o⟩
end
def Abu:Value:=.func (.func 199) #[] #[]
theorem Uj (n c:Nat)(A:Option Addr)(ts:List (ByteArray×Int))(w:World)(hl:ts.length=n)(hn:n<=12)(h:ts=[]\/∃b,A=some ⟨b,0,none⟩/\TmR w b ts) :
  Calls prog 234 #[.slice A n c,(0:Int),n,Abu] w (Adb A ts w):=by
 by_cases h2:2<=n
 ·rcases h with rfl|⟨b,rfl,hT⟩
  ·simp at hl;omega
  ·refine(Ui n c b ts w hl h2 hn hT).mono ?_
   rintro e w' ⟨rfl,a1,h1,h3,h4⟩;exact⟨rfl,a1,by omega,.inr ⟨b,rfl,h3,h4⟩⟩
 ·refine(Uh n c n A Abu (by omega) (by omega) w).mono ?_
  rintro e w' ⟨rfl,rfl⟩;refine⟨rfl,ts,rfl,?_⟩
  rcases h with h|⟨b,h1,h3⟩
  ·exact .inl ⟨h,jF _ _⟩
  ·exact .inr ⟨b,h1,h3,jF _ _⟩
set_option maxRecDepth 100000 in
theorem Ajf (n c:Nat)(A:Option Addr)(ts:List (ByteArray×Int))(k:Int)(w:World)(hl:ts.length=n)(hn:n<=12)(h:ts=[]\/∃b,A=some ⟨b,0,none⟩/\TmR w b ts) :
  Calls prog 226 #[.slice A n c,(0:Int),n,k,Abu] w (Adb A ts w):=by
 have HI:=hd (Uj n c A ts w hl hn h);have a1:(n:Int)<=12:=by omega
 clear hl h;unfold Abu at *;go_enter func226,ntmps226
 go_wp2_with fail
 go_loop [1,2,3,10,11] (fun a b l x y=>a=.int .i64 0/\b=.int .i64 n) (fun _ _ _ _ _=>0)
 case atStart=>exact⟨rfl,rfl⟩
 case round=>
  obtain⟨rfl,rfl⟩:=hrel;go_wp2_with fail
  refine HI.o.mono ?_
  rintro e w' ⟨rfl,hs⟩;have HS:=hd hs;clear hs;go_wp2_with fail
  exact bodyPost_ret (results_none rfl _ _ _) rfl ⟨rfl,HS.o⟩
set_option maxRecDepth 100000 in
theorem Ajg (n:Nat)(hn:n<=4)(w:World):Calls prog 118 #[.int .u64 n] w fun e w'=>(∃k:Int,e=.returned (.int .i64 k))/\w=w':=by
 have h:n=0\/n=1\/n=2\/n=3\/n=4:=by omega
 rcases h with rfl|rfl|rfl|rfl|rfl
 all_goals
  go_enter func118,ntmps118
  go_wp2
  go_ret
  exact⟨⟨_,rfl⟩,rfl⟩
set_option maxRecDepth 100000 in
theorem Aey (n c:Nat)(A:Option Addr)(ts:List (ByteArray×Int))(w:World)(hl:ts.length=n)(hn:n<=4)(h:ts=[]\/∃b,A=some ⟨b,0,none⟩/\TmR w b ts) :
  Calls prog 198 #[.slice A n c,Abu] w (Adb A ts w):=by
 have HP:=hd (fun k=>Ajf n c A ts k w hl (by omega) h);have HL:=hd (Ajg n hn w);clear hl h;unfold Abu at *;have h:n=0\/n=1\/n=2\/n=3\/n=4:=by omega
 rcases h with rfl|rfl|rfl|rfl|rfl
 all_goals
  go_enter func198,ntmps198
  go_wp2_with fail
  refine HL.o.mono ?_
  rintro e w' ⟨⟨k,rfl⟩,rfl⟩;go_wp2_with fail
  refine(HP.o k).mono ?_
  rintro e w' ⟨rfl,hs⟩;have HS:=hd hs;clear hs;go_wp2_with fail
  exact bodyPost_end (results_none rfl _ _ _) rfl ⟨rfl,HS.o⟩
section
theorem Zo {w:World}{B e s n:Nat}{v:Value}{l:List Value}(h:w.ownsRow B e s v n l){g:Nat}(hg:v.ownBlock=some g):∃C,Blk w g e C:=by
 rcases h.2 with⟨h1,_⟩|⟨g',cap,a1,h1,_,h3,_⟩
 ·rw[h1] at hg;cases hg
 ·rw[h1] at hg;cases hg;exact⟨a1,h3⟩
theorem Bx {w:World}{B e s n:Nat}{v:Value}{l:List Value}(h:w.ownsRow B e s v n l){b:Nat}{t:TypeId}{C:Array Value}(hb:Blk w b t C)(ht:e≠t):∀g,v.ownBlock=some g->g≠b:=fun g hg e1=>by
 obtain⟨D,hD⟩:=Zo h hg;rw[e1] at hD;exact ht (hD.type hb)
theorem Stm.blk {w:World}{base g n:Nat}(h:Stm w base g n):∃C,Blk w g 25 C:=by
 obtain⟨A,len,cap,k,hB,-⟩:=h;exact⟨_,hB⟩
def Db (g:Nat)(bA:Option Addr)(nb bc:Nat)(V:Value)(cnt:Int):Array Value:=#[.pointer (some g),.slice bA nb bc,.slice none 0 0,V,.int .i64 cnt]
structure Bld (w:World)(base g pb n:Nat)(bA:Option Addr)(bc:Nat)(bs:List Bf)(V:Value)(l:List St)(cnt:Int):Prop where
 stm:Stm w base g n
 blk:Blk w pb 188 (Db g bA bs.length bc V cnt)
 bpb:base<=pb
 buf:w.ownsRow base 45 4 (.slice bA bs.length bc) bs.length (bs.flatMap bfC)
 row:w.ownsRow base 43 21 V l.length (l.flatMap stC)
 bne:1<=bs.length
 b9:bs.length<=9
 bsz:∀b∈bs,1<=b.size/\b.size<=1000
 l3:l.length<=3
section
variable {w w':World} {base g pb n m bc:Nat} {bA:Option Addr} {bs:List Bf} {V:Value} {l:List St} {cnt:Int}
theorem Bld.pg (h:Bld w base g pb n bA bc bs V l cnt):pb≠g:=fun e=>by
 obtain⟨C,hC⟩:=h.stm.blk;rw[<-e] at hC;exact absurd (hC.type h.blk) (by decide)
theorem Bld.draw (h:Bld w base g pb n bA bc bs V l cnt)(hE:Ext [g] w w')(hS:Stm w' base g m):Bld w' base g pb m bA bc bs V l cnt:=by
 obtain⟨C,hC⟩:=h.stm.blk;refine⟨hS,h.blk.ext hE (by rw[jA];exact h.pg),h.bpb,Ah h.buf hE fun q hq=>?_,Ah h.row hE fun q hq=>?_,h.bne,h.b9,h.bsz,h.l3⟩
 ·rw[jA];exact Bx h.buf hC (by decide) q hq
 ·rw[jA];exact Bx h.row hC (by decide) q hq
theorem Bld.grow (h:Bld w base g pb n bA bc bs V l cnt)(hE:Ext [] w w'):Bld w' base g pb n bA bc bs V l cnt:=
 ⟨h.stm.ext hE (by simp) (by simp),h.blk.ext hE (by simp),h.bpb,Ah h.buf hE (by simp),Ah h.row hE (by simp),h.bne,h.b9,h.bsz,h.l3⟩
theorem Bld.less (h:Bld w base g pb n bA bc bs V l cnt)(hm:m<=n):Bld w base g pb m bA bc bs V l cnt:=⟨h.stm.less hm,h.blk,h.bpb,h.buf,h.row,h.bne,h.b9,h.bsz,h.l3⟩
theorem Cr (s:St):(stC s).length=21:=by cases s;rfl
theorem Oo (b:Bf):(bfC b).length=4:=rfl
theorem Bld.at (h:Bld w base g pb n bA bc bs V l cnt){i:Nat}(hi:i<l.length):∃va vc s,V=.slice (some ⟨va,0,none⟩) l.length vc/\va<w.heap.size/\l[i]? = some s/\∀(j:Nat) (v:Value),(stC s)[j]? = some v->w.cell? ⟨va,i*21+j,none⟩=some v:=by
 obtain⟨A,c,rfl,-,a1⟩:=Bg h.row;obtain⟨q,rfl,-,hq⟩:=a1 (by omega);have hs:l[i]? = some l[i]:=jJ hi;refine⟨q,c,_,rfl,hq,hs,fun j v hv=>Dg h.row rfl ?_⟩
 have hj:=(ils hv).1;rw[Cr] at hj;rw[Dk Cr hs hj];exact hv
theorem Bld.bufAt (h:Bld w base g pb n bA bc bs V l cnt){i:Nat}(hi:i<bs.length):∃q b,bA=some ⟨q,0,none⟩/\q<w.heap.size/\bs[i]? = some b/\∀(j:Nat) (v:Value),(bfC b)[j]? = some v->w.cell? ⟨q,i*4+j,none⟩=some v:=by
 obtain⟨A,c,hv,-,a1⟩:=Bg h.buf;cases hv
 obtain⟨q,rfl,-,hq⟩:=a1 (by omega);have hs:bs[i]? = some bs[i]:=jJ hi;refine⟨q,_,rfl,hq,hs,fun j v hv=>Dg h.buf rfl ?_⟩
 have hj:=(ils hv).1;rw[Oo] at hj;rw[Dk Oo hs hj];exact hv
end
def Ajh (base g n:Nat)(w:World)(e:Ending)(w':World):Prop:=∃a:Af,e=.returned (afV a)/\AfA (fun b=>w.heap.size<=b) 4 w' a/\Ext [g] w w'/\Stm w' base g n
theorem Abv:∃i,prog.info? 178=some i/\i.zero=some (.agg #[.string ⟨#[]⟩,(0:Int)])/\i.size=2/\i.bytes=24:=info_parts (show((prog).info? 178).map (fun i=>(i.zero,i.size,i.bytes))=some (some (.agg #[.string ⟨#[]⟩,(0:Int)]),2,24) by kernel_rfl)
structure Jk (w:World)(base g pb n:Nat)(bA:Option Addr)(bc:Nat)(bs:List Bf)(V:Value)(l:List St)(cnt:Int)(rb ab:Nat)(x:Int)(v:Value)(ts:List (ByteArray×Int))(wx:World):Prop where
 ext:Ext [g] w wx
 bld:Bld wx base g pb n bA bc bs V l cnt
 res:Blk wx rb 38 #[(0:Int),.slice none 0 0]
 blk:Blk wx ab 38 #[x,v]
 own:wx.ownsRow w.heap.size 178 2 v ts.length (ts.flatMap tmC)
 rb0:w.heap.size<=rb
 ab0:w.heap.size<=ab
 rab:rb≠ab
 g0:g<w.heap.size
section
variable {w wx wy:World} {base g pb n m bc:Nat} {bA:Option Addr} {bs:List Bf} {V:Value} {l:List St} {cnt:Int} {rb ab:Nat} {x:Int} {v:Value} {ts:List (ByteArray×Int)}
theorem Jk.draw (h:Jk w base g pb n bA bc bs V l cnt rb ab x v ts wx)(hE:Ext [g] wx wy)(hS:Stm wy base g m):Jk w base g pb m bA bc bs V l cnt rb ab x v ts wy:=
 ⟨h.ext.trans hE,h.bld.draw hE hS,h.res.ext hE (by have:=h.rb0;have:=h.g0;rw[jA];omega),h.blk.ext hE (by have:=h.ab0;have:=h.g0;rw[jA];omega),
  Ah h.own hE fun q hq=>by have:=Ad h.own q hq;have:=h.g0;rw[jA];omega,h.rb0,h.ab0,h.rab,h.g0⟩
theorem Jk.grow (h:Jk w base g pb n bA bc bs V l cnt rb ab x v ts wx)(hE:Ext [] wx wy):Jk w base g pb n bA bc bs V l cnt rb ab x v ts wy:=
 ⟨h.ext.trans hE.nil,h.bld.grow hE,h.res.ext hE (by simp),h.blk.ext hE (by simp),Ah h.own hE (by simp),h.rb0,h.ab0,h.rab,h.g0⟩
theorem Jk.less (h:Jk w base g pb n bA bc bs V l cnt rb ab x v ts wx)(hm:m<=n):Jk w base g pb m bA bc bs V l cnt rb ab x v ts wx:=⟨h.ext,h.bld.less hm,h.res,h.blk,h.own,h.rb0,h.ab0,h.rab,h.g0⟩
theorem Bld.far {S:List Nat}{w0:World}(h:Bld wx base g pb n bA bc bs V l cnt)(hE:Ext S wx wy)(h0:Bld w0 base g pb m bA bc bs V l cnt)(hS:∀q∈S,w0.heap.size<=q):Bld wy base g pb n bA bc bs V l cnt:=by
 have hb:∀q∈S,base<=q:=fun q hq=>by have:=hS q hq;have:=h0.blk.lt;have:=h0.bpb;omega
 refine⟨h.stm.ext hE (fun hm=>by have:=hS _ hm;have:=h0.stm.lt;omega) hb,h.blk.ext hE (fun hm=>by have:=hS _ hm;have:=h0.blk.lt;omega),h.bpb,Ah h.buf hE fun q hq hm=>?_,Ah h.row hE fun q hq hm=>?_,h.bne,h.b9,h.bsz,h.l3⟩
 ·have:=hS _ hm;have:=(h0.buf.lt q hq).2;omega
 ·have:=hS _ hm;have:=(h0.row.lt q hq).2;omega
theorem Jk.far {S:List Nat}(h:Jk w base g pb n bA bc bs V l cnt rb ab x v ts wx)(h0:Bld w base g pb m bA bc bs V l cnt)(hE:Ext S wx wy)(hS:∀q∈S,w.heap.size<=q):Ext [g] w wy/\Bld wy base g pb n bA bc bs V l cnt:=
 ⟨h.ext.step hE fun q hq=>.inr (hS q hq),h.bld.far hE h0 hS⟩
theorem Jk.base' (h:Jk w base g pb n bA bc bs V l cnt rb ab x v ts wx)(h0:Bld w base g pb m bA bc bs V l cnt)(y:Int):Jk w base g pb n bA bc bs V l cnt rb ab y v ts (wx.setCell ⟨ab,0,none⟩ y):=by
 have hE:Ext [ab] wx (wx.setCell ⟨ab,0,none⟩ y):=jL (.inl (by simp)) (jF _ _);obtain⟨h1,h2⟩:=h.far h0 hE (fun q hq=>by rw[jA.1 hq];exact h.ab0);exact⟨h1,h2,h.res.ext hE (by rw[jA];exact h.rab),h.blk.set_' 0 _ _ rfl,Ah h.own hE fun q hq=>by rw[jA];exact Bx h.own h.blk (by decide) q hq,h.rb0,h.ab0,h.rab,h.g0⟩
theorem Jk.terms (h:Jk w base g pb n bA bc bs V l cnt rb ab x v ts wx)(h0:Bld w base g pb m bA bc bs V l cnt){S:List Nat}(hE:Ext S wx wy)(hS:∀q∈S,v.ownBlock=some q){u:Value}{us:List (ByteArray×Int)}
  (hO:wy.ownsRow w.heap.size 178 2 u us.length (us.flatMap tmC)):Jk w base g pb n bA bc bs V l cnt rb ab x u us (wy.setCell ⟨ab,1,none⟩ u):=by
 have a1:Ext [ab] wy (wy.setCell ⟨ab,1,none⟩ u):=jL (.inl (by simp)) (jF _ _);have a2:∀q∈S,w.heap.size<=q:=fun q hq=>Ad h.own q (hS q hq)
 obtain⟨h1,h2⟩:=h.far h0 hE a2;have hb:Blk wy ab 38 #[x,v]:=h.blk.ext hE fun hm=>Bx h.own h.blk (by decide) _ (hS _ hm) rfl
 have hr:Blk wy rb 38 #[(0:Int),.slice none 0 0]:=h.res.ext hE fun hm=>Bx h.own h.res (by decide) _ (hS _ hm) rfl
 exact⟨h1.step a1 fun q hq=>.inr (by rw[jA.1 hq];exact h.ab0),h2.far a1 h0 (fun q hq=>by rw[jA.1 hq];exact h.ab0),hr.ext a1 (by rw[jA];exact h.rab),hb.set_' 1 _ _ rfl,
  Ah hO a1 fun q hq=>by rw[jA];exact Bx hO hb (by decide) q hq,h.rb0,h.ab0,h.rab,h.g0⟩
end
set_option maxRecDepth 100000 in
theorem Mg (base g pb n bc:Nat)(bA:Option Addr)(bs:List Bf)(V:Value)(l:List St)(cnt size:Int)(w:World)(h:Bld w base g pb (n+10) bA bc bs V l cnt)(hsz : -1000000<=size/\size<=1000000) :
  Calls prog 153 #[.pointer (some pb),size] w (Ajh base g n w):=by
 unfold Ajh;obtain⟨mx,bx⟩:∃m:Int,max size 1=m:=⟨_,rfl⟩;have b4:mx<=1000000:=by omega
 have HD:=hd h;have ai:=hd h.l3;obtain⟨VA,vc,rfl,-,-⟩:=Bg h.row;clear h;go_enter func153,ntmps153
 go_upto_region 1 with fail
 have ay:=hd ((jF [] w).alloc (.cells #[(0:Int),.slice none 0 0] 38));have aM:=hd (jK w 38 #[(0:Int),.slice none 0 0]);have al:=hd (HD.o.grow ay.o);generalize World.alloc w _=w1 at *;have qp:=al.o.blk.cell;have aa:=al.o.blk.lt;unfold Db at qp;go_wp2_with fail
 refine(Cb base g (n+9) _ _ al.o.stm (by omega)).mono ?_
 rintro e w2 ⟨r,rfl,_,hE,hS⟩;have az:=hd (ay.o.nil.trans hE);have aN:=hd (al.o.draw hE hS);have aA:=hd (aM.o.ext hE (by rw[jA];have:=HD.o.stm.lt;omega));clear hE hS qp aa al aM ay;go_upto_region 2 with fail
 have am:Hd (Jk w base g pb (n+9) bA bc bs (.slice VA l.length vc) l cnt w.heap.size w2.heap.size r (.slice none 0 0) [] (w2.alloc (.cells #[r,.slice none 0 0] 38))):=hd (by
  have h1:Ext [] w2 (w2.alloc (.cells #[r,.slice none 0 0] 38)):=(jF _ _).alloc _;exact⟨az.o.trans h1.nil,aN.o.grow h1,aA.o.ext h1 (by simp),jK _ _ _,Cm _ _ _ _,jD _,az.o.size,by have:=aA.o.lt;omega,HD.o.stm.lt⟩)
 generalize World.alloc w2 _=w3 at *;generalize w2.heap.size=ab at *;generalize b1:w.heap.size=rb at *;have aB:=hd b1;clear b1 az aN aA;have qp:=am.o.bld.blk.cell;have aa:=am.o.bld.blk.lt;unfold Db at qp;go_upto_if 21 with(go_at_call 13;refine(Gf base g (n+8) _ _ am.o.bld.stm (by omega)).mono ?_;rintro e w4 ⟨fl,rfl,hE,hS⟩)
 have aj:=hd (am.o.draw hE hS);clear hE hS am qp aa;go_cut [] (fun wx=>∃x:Int,Hd (Jk w base g pb (n+8) bA bc bs (.slice VA l.length vc) l cnt rb ab x (.slice none 0 0) [] wx))
 case first=>
  cases fl
  ·go_wp2_with fail
   go_meet
   exact⟨_,aj⟩
  ·have qa:=aj.o.blk.cell;have aC:=aj.o.blk.frozen;have af:=aj.o.blk.lt;go_wp2_with fail
   go_meet
   exact⟨0,hd (aj.o.base' HD.o 0)⟩
 case rest=>
  obtain⟨x0,aK⟩:=hcut;have qp:=aK.o.bld.blk.cell;have aa:=aK.o.bld.blk.lt;unfold Db at qp;go_wp2_with fail
  clear qp aa aj;go_loopw [28] (fun i wr=>∃(k:Nat) (x:Int) (v:Value) (ts:List (ByteArray×Int)),i=.int .i64 k/\k<=l.length/\ts.length<=k/\Hd (Jk w base g pb (n+2+2*(3-k)) bA bc bs (.slice VA l.length vc) l cnt rb ab x v ts wr)) (fun i _=>(l.length-intOf i).toNat)
  case atStart=>exact⟨0,x0,_,[],rfl,jQ _,jD _,hd (aK.o.less (by omega))⟩
  case round=>
   obtain⟨k,x,v,ts,rfl,hk,aW,HA⟩:=hrel;by_cases b2:k<l.length
   ·have b5:(k:Int)<(l.length:Int):=by omega
    have ao:=hd b2;go_upto_block 1 with fail
    go_cut [] (fun wx=>∃(x:Int) (v:Value) (ts:List (ByteArray×Int)),ts.length<=k+1/\Hd (Jk w base g pb (n+2+2*(3-(k+1))) bA bc bs (.slice VA l.length vc) l cnt rb ab x v ts wx))
    case first=>
     obtain⟨va,bz,s,hV,bB,hx,hc⟩:=HA.o.bld.at b2;cases hV
     obtain⟨h,ae⟩:=s;have HW:=hd (fun j v hv=>hc j v hv:∀(j:Nat) (v:Value),(Ai h ae.length h.val.h h.val.ks.length).toList[j]? = some v->wr.cell? ⟨va,k*21+j,none⟩=some v);have aO:=hd (jK wr 43 (Ai h ae.length h.val.h h.val.ks.length));have ak:=hd (HA.o.grow ((jF [] wr).alloc (.cells (Ai h ae.length h.val.h h.val.ks.length) 43)));obtain⟨a0,a1,a2,a3,a4,a5,a6,a7,-⟩:=Cf h ae.length h.val.h h.val.ks.length;have aD:=hd (show(prog.info? 43).map (·.size)=some (Ai h ae.length h.val.h h.val.ks.length).size from Dv);have aP:=hd (show zSt.size=(Ai h ae.length h.val.h h.val.ks.length).size from rfl);have aQ:=hd (Cz h ae.length h.val.h h.val.ks.length);clear hx hc;generalize Ai h ae.length h.val.h h.val.ks.length=arr at *
     go_upto_region 7 with(first
      | refine Ac rfl 43 _ rfl va (k*21) rfl arr HW.o _ underlying43 rfl aD.o ?_
      | refine Ax rfl rfl 43 _ _ rfl rfl zSt (Ge _) arr rfl rfl aD.o aP.o aQ.o ?_)
     have bn:rb<=wr.heap.size:=by rw[<-aB.o];exact HA.o.ext.size
     have bo:=HA.o.blk.lt;have bp:=HA.o.res.lt;generalize World.alloc wr _=w6 at *;generalize wr.heap.size=fb at *;clear HA HW aD aP aQ;have qp:=ak.o.bld.blk.cell;have aa:=ak.o.bld.blk.lt;unfold Db at qp;go_upto_if 36 with(go_at_call 13;refine(Gf base g (n+2+2*(3-(k+1))+1) _ _ (ak.o.bld.stm.less (by have:=ai.o;omega)) (by omega)).mono ?_;rintro e w7 ⟨fl,rfl,hE,hS⟩)
     have ag:=hd (ak.o.draw hE hS);have aR:=hd (aO.o.ext hE (by have:=ak.o.g0;rw[aB.o] at this;rw[jA];omega));clear hE hS ak aO qp aa;cases fl
     ·go_wp2_with fail
      go_meet
      exact⟨x,v,ts,by omega,hd (ag.o.less (by have:=ai.o;omega))⟩
     ·have qp:=ag.o.bld.blk.cell;have aa:=ag.o.bld.blk.lt;unfold Db at qp;have aE:=hd (jK w7 3 (Cj [1,1,1,2,-1]));have ap:=hd (ag.o.grow ((jF [] w7).alloc (.cells (Cj [1,1,1,2,-1]) 3)));have aF:=hd (aR.o.alloc (.cells (Cj [1,1,1,2,-1]) 3));have bq:g<w7.heap.size:=ag.o.bld.stm.lt;simp only[Cj,List.map_cons,List.map_nil] at aE ap aF;go_wp2_with fail
      refine(Cc base g (n+2+2*(3-(k+1))) w7.heap.size 5 3 [1,1,1,2,-1] _ ap.o.bld.stm aE.o (by have:=ai.o;omega) (by decide)).mono ?_
      rintro e w9 ⟨r,rfl,hr,hE,hS⟩;have ac:=hd (ap.o.draw hE hS);have aq:=hd (aF.o.ext hE (by have:=ag.o.g0;rw[aB.o] at this;rw[jA];omega));clear hE hS ap aF aE ag aR qp aa hr;obtain⟨i0,bi,bj,bk,bl⟩:=Abv;have qb:=aq.o.cell;have aS:=aq.o.lt;have qa:=ac.o.blk.cell;have af:=ac.o.blk.lt;have b6:=hd (jK w9 178 #[.string h.var,r]);have b7:w.heap.size<=w9.heap.size:=ac.o.ext.size;have br:ts.length+1<=4:=by have:=ai.o;omega
      go_upto_region 10 with(
       refine wpList_append_lies _ rfl _ _ 36 rfl w.heap.size 178 i0 _ 2 24 underlying36 bi bj bk bl rfl (by decide) v ts.length (ts.flatMap tmC) rfl ?c0 ⟨w9.heap.size,0,none⟩ 1 1 [.string h.var,.int .i64 r] rfl rfl ?c1 ?c2 (by omega) ?c3 ?c4 ?c5 _ rfl ?_
       case c0=>exact Ah ac.o.own ((jF [] w9).alloc _) (by simp)
       case c1=>intro j u hj;rw[Addr.add_mk,Nat.zero_add,b6.o.cell,<-Array.getElem?_toList];exact hj
       case c2=>intro u hu;simp only[jE,jH,or_false] at hu;rcases hu with rfl|rfl<;>rfl
       case c3=>unfold maxLen;omega
       case c4=>omega
       case c5=>exact nt b7 ((jF [] w9).alloc _).size
       intro g8 c8 w10 ho8 hg8 hi8 ha8;have ah:Hd (Ext v.ownBlock.toList w9 w10):=hd (((jF _ w9).alloc _).grown hg8 fun q hq=>.inl (jC.2 hq));have a8:=hd (ac.o.terms HD.o ah.o (fun q hq=>jC.1 hq) (u:=.slice (some g8) (ts.length+1) c8) (us:=ts ++ [(h.var,r)]) (by rw[jG,List.flatMap_append];exact ho8));have aG:=hd (aq.o.ext ah.o fun hm=>Bx ac.o.own aq.o (by decide) _ (jC.1 hm) rfl);have an:=hd (aG.o.ext (jL (b:=ab) (i:=1) (u:=.slice (some g8) (ts.length+1) c8) (.inl (by simp)) (jF [ab] w10)) (by rw[jA];omega));have ad:Blk w10 ab 38 #[x,v]:=ac.o.blk.ext ah.o fun hm=>Bx ac.o.own ac.o.blk (by decide) _ (jC.1 hm) rfl
       have qa:=ad.cell;have aC:=ad.frozen;have af:=ad.lt;clear ho8 hg8 hi8 ha8 ad)
      generalize World.setCell w10 _ _=w11 at *;clear qa aC af qb aS;by_cases b3:r<0
      ·have b8:decide (r<0)=true:=decide_eq_true b3;have qb:=an.o.cell;have aS:=an.o.lt;have qa:=a8.o.blk.cell;have aC:=a8.o.blk.frozen;have af:=a8.o.blk.lt;go_wp2_with fail
       go_meet
       exact⟨_,_,_,by rw[jG];exact Nat.succ_le_succ aW,hd (a8.o.base' HD.o _)⟩
      ·have b8:decide (r<0)=false:=decide_eq_false b3;go_wp2_with fail
       go_meet
       exact⟨_,_,_,by rw[jG];exact Nat.succ_le_succ aW,a8⟩
    case rest=>
     obtain⟨x2,v2,bm,aL,a8⟩:=hcut;have bt:k<4:=by have:=ao.o;have:=ai.o;omega
     have aT:=ao.o;go_wp2_with fail
     go_roundw
     case rel=>exact⟨k+1,x2,v2,bm,by go_num,by have:=ao.o;omega,aL,a8⟩
     case measure=>simp[intOf];have:=ao.o;omega
   ·have aT:k=l.length:=by omega
    subst aT;have aH:ts.length<=4:=by have:=ai.o;omega
    have qa:=HA.o.blk.cell;have af:=HA.o.blk.lt;obtain⟨TA,tc,rfl,-,aX⟩:=Bg HA.o.own
    have aI:=hd (Aey ts.length tc TA ts wr rfl aH (by
     by_cases h0:ts=[]
     ·exact .inl h0
     ·obtain⟨q,rfl,-,-⟩:=aX (List.length_pos_iff.2 h0);exact .inr ⟨q,rfl,TmR.own HA.o.own⟩))
    unfold Abu Adb at aI;clear aX;go_wp2_with fail
    refine aI.o.mono ?_
    rintro e w5 ⟨rfl,aZ,b0,hs⟩
    have HX:Hd (∃S:List Nat,Ext S wr w5/\(∀q∈S,(Value.slice TA ts.length tc).ownBlock=some q)/\Ao (fun b=>w.heap.size<=b/\b≠rb) 4 w5 TA 2 tmC aZ):=hd (by
     rcases hs with⟨h1,h2⟩|⟨q,rfl,h2,h3⟩
     ·subst h1;exact⟨[],h2,by simp,Ao.nil ..⟩
     ·exact⟨[q],h3,fun y hy=>by rw[jA.1 hy];rfl,h2.seq (by omega) ⟨Ad HA.o.own q rfl,Bx HA.o.own HA.o.res (by decide) q rfl⟩⟩)
    have ba:=hd b0;clear hs b0 aI qa af;obtain⟨S5,aw,ax,aY⟩:=HX.o;have au:=hd (HA.o.res.ext aw fun hm=>Bx HA.o.own HA.o.res (by decide) _ (ax _ hm) rfl);have aU:=hd (HA.o.blk.ext aw fun hm=>Bx HA.o.own HA.o.blk (by decide) _ (ax _ hm) rfl);have aV:=hd (HA.o.far HD.o aw fun q hq=>Ad HA.o.own q (ax q hq));have bb:=hd aY;clear aw ax aY HX;have qa:=aU.o.cell;have af:=aU.o.lt;have qr:=au.o.cell;have bu:=au.o.frozen;have bv:=au.o.lt;have aJ:=hd ((jL (b:=rb) (i:=0) (u:=.int .i64 x) (.inl (by simp)) (jF [rb] w5)).trans (jL (b:=rb) (i:=1) (u:=.slice TA ts.length tc) (.inl (by simp)) (jF [rb] _)));have bd:=hd ((au.o.set_' 0 x #[x,.slice none 0 0] rfl).set_' 1 (.slice TA ts.length tc) #[x,.slice TA ts.length tc] rfl);go_wp2_with fail
    have be:=hd (bb.o.ext aJ.o fun y hy=>by rw[jA.1 hy];exact fun hh=>hh.2 rfl);have bf:=hd (aV.o.1.step aJ.o fun y hy=>.inr (by rw[jA.1 hy];exact HA.o.rb0));have bh:=hd (aV.o.2.stm.ext aJ.o (by have:=HA.o.rb0;have:=HA.o.g0;rw[jA];omega) (fun y hy=>by rw[jA.1 hy];have:=HA.o.rb0;have:=HD.o.blk.lt;have:=HD.o.bpb;omega));generalize World.setCell (World.setCell w5 _ _) _ _=w6 at *;refine bodyPost_ret (results_cell_row rfl _ _ rb 38 _ (0,0) _ rfl bd.o underlying38 rfl (by kernel_rfl)) rfl ⟨⟨x,TA,tc,aZ⟩,by rw[<-ba.o];rfl,be.o.mono (fun b _ hb=>hb.1) (jD _),bf.o,bh.o.less (by omega)⟩
end
set_option maxRecDepth 100000 in
theorem Aez (base g pb n bc:Nat)(bA:Option Addr)(bs:List Bf)(V:Value)(l:List St)(cnt:Int)(a:Af)(w:World)(h:Bld w base g pb n bA bc bs V l cnt)(ha:Jn w a)(ha4:a.ts.length<=4) :
  Calls prog 225 #[.pointer (some pb),afV a] w fun e w'=>∃r:Int,e=.returned (.int .i64 r)/\Ext [] w w':=by
 obtain⟨ab,AA,ac,ts⟩:=a;unfold afV Jn at *;dsimp only at *;have HD:=hd h;have ao:=hd h.l3;have HA:=hd ha;have ap:=hd ha4;obtain⟨VA,vc,rfl,-,-⟩:=Bg h.row;clear h ha ha4;go_enter func225,ntmps225
 go_wp2_with fail
 have aq:=hd ((jF [] w).alloc (.cells #[ab,.slice AA ts.length ac] 38));generalize World.alloc w _=w1 at *;go_loopw [5,15] (fun nn i wr=>∃(k:Nat) (m:Int),nn=.int .i64 m/\i=.int .i64 k/\k<=ts.length/\Hd (Ext [] w wr)) (fun _ i _=>(ts.length-intOf i).toNat)
 case atStart=>exact⟨0,ab,rfl,rfl,jQ _,aq⟩
 case round=>
  obtain⟨k,m,rfl,rfl,hk,HE⟩:=hrel;by_cases am:k<ts.length
  ·have au:(k:Int)<(ts.length:Int):=by omega
   have ag:=hd am;obtain⟨tb,⟨s,c⟩,rfl,hx,hc⟩:=HA.o.at am;have q1:=HE.o.held (hc 0 _ rfl) (by simp);have q2:=HE.o.held (hc 1 _ rfl) (by simp);have aa:=jB wr _ q1;simp only[Nat.add_zero] at q1 q2 aa;clear hx hc;go_upto_block 1 with fail
   go_cut [5] (fun nn wx=>∃m:Int,nn=.int .i64 m/\Hd (Ext [] w wx))
   case first=>
    go_upto_region 5 with fail
    have ah:=hd (HE.o.alloc (.cells #[.string s,c] 178));have ai:=hd (jK wr 178 #[.string s,c]);generalize World.alloc wr _=w5 at *;generalize wr.heap.size=tk at *;clear q1 q2 aa HE;have ad:=hd (HD.o.grow ah.o);have qp:=ad.o.blk.cell;have aw:=ad.o.blk.lt;unfold Db at qp;go_wp2_with fail
    clear qp aw;go_loopw [5,24] (fun nn i wq=>∃(j:Nat) (m:Int),nn=.int .i64 m/\i=.int .i64 j/\j<=l.length/\Hd (Ext [] w5 wq)) (fun _ i _=>(l.length-intOf i).toNat)
    case atStart=>exact⟨0,m,rfl,rfl,jQ _,hd (jF _ _)⟩
    case round=>
     rename World=>wq
     obtain⟨j,m3,rfl,rfl,hj,af⟩:=hrel;by_cases an:j<l.length
     ·have ax:(j:Int)<(l.length:Int):=by omega
      have aj:=hd an;go_upto_block 3 with fail
      go_cut [5] (fun nn wx=>∃m:Int,nn=.int .i64 m/\Hd (Ext [] w5 wx))
      case first=>
       obtain⟨va,aF,st,hV,aG,hx,hc⟩:=(ad.o.grow af.o).at an;cases hV
       obtain⟨h,a8⟩:=st;have HW:=hd (fun j v hv=>hc j v hv:∀(i:Nat) (v:Value),(Ai h a8.length h.val.h h.val.ks.length).toList[i]? = some v->wq.cell? ⟨va,j*21+i,none⟩=some v);have ak:=hd (jK wq 43 (Ai h a8.length h.val.h h.val.ks.length));have ae:=hd (af.o.alloc (.cells (Ai h a8.length h.val.h h.val.ks.length) 43));obtain⟨a0,a1,a2,a3,a4,a5,a6,a7,-⟩:=Cf h a8.length h.val.h h.val.ks.length;have al:=hd (show(prog.info? 43).map (·.size)=some (Ai h a8.length h.val.h h.val.ks.length).size from Dv);have ay:=hd (show zSt.size=(Ai h a8.length h.val.h h.val.ks.length).size from rfl);have az:=hd (Cz h a8.length h.val.h h.val.ks.length);clear hx hc;generalize Ai h a8.length h.val.h h.val.ks.length=arr at *
       go_upto_region 8 with(first
        | refine Ac rfl 43 _ rfl va (j*21) rfl arr HW.o _ underlying43 rfl al.o ?_
        | refine Ax rfl rfl 43 _ _ rfl rfl zSt (Ge _) arr rfl rfl al.o ay.o az.o ?_)
       generalize World.alloc wq _=w6 at *;generalize wq.heap.size=fb at *;have qb:=ak.o.cell;have aE:=ak.o.lt;have qt:=(ai.o.ext ae.o (by simp)).cell;have aa:=(ai.o.ext ae.o (by simp)).lt;go_wp2_with fail
       all_goals
        go_meet
        exact⟨_,rfl,ae⟩
      case rest=>
       obtain⟨m4,rfl,aC⟩:=hcut;have aA:j<4:=by have:=aj.o;have:=ao.o;omega
       have aB:=aj.o;go_wp2_with fail
       go_roundw
       case rel=>exact⟨j+1,m4,rfl,by go_num,by omega,aC⟩
       case measure=>simp[intOf];omega
     ·go_wp2_with fail
      go_meet
      exact⟨m3,rfl,hd (ah.o.trans af.o)⟩
   case rest=>
    obtain⟨m2,rfl,aD⟩:=hcut;have aA:k<5:=by have:=ag.o;have:=ap.o;omega
    have aB:=ag.o;go_wp2_with fail
    go_roundw
    case rel=>exact⟨k+1,m2,rfl,by go_num,by omega,aD⟩
    case measure=>simp[intOf];omega
  ·go_wp2_with fail
   go_ret
   exact⟨m,rfl,HE.o⟩
set_option maxRecDepth 100000 in
theorem Qf (base g pb n bc buf:Nat)(bA:Option Addr)(bs:List Bf)(V:Value)(l:List St)(cnt:Int)(w:World)(h:Bld w base g pb (n+70) bA bc bs V l cnt)(hb:buf<bs.length) :
  Calls prog 196 #[.pointer (some pb),buf] w (Ajh base g n w):=by
 have HD:=hd h;have aT:(buf:Int)<(bs.length:Int):=by omega
 have aU:=hd h.b9;obtain⟨q,bf,rfl,hq,hx,hc⟩:=h.bufAt hb;have aE:=hd (h.bsz bf (ilm hx));have HC:=hd (hc 1 _ rfl);clear h hx hc;unfold Ajh;go_enter func196,ntmps196
 go_upto_region 1 with fail
 have ah:=hd ((jF [] w).alloc (.cells #[(0:Int),.slice none 0 0] 38));have aF:=hd (jK w 38 #[(0:Int),.slice none 0 0]);have ai:=hd (HD.o.grow ah.o);generalize World.alloc w _=w1 at *;generalize aD:w.heap.size=rb at *;have a2:=hd aD;clear aD;have qp:=ai.o.blk.cell;have aj:=ai.o.blk.lt;have qc:=Ext.held ah.o HC.o (by simp);have ao:=jB w1 _ qc;simp only at ao;unfold Db at qp;go_wp2_with fail
 generalize aS:bf.size=sz at *;have ap:Hd (1<=sz/\sz<=1000):=aE;clear qp aj qc ao aS;go_loopw [16] (fun i wr=>∃(k:Nat),i=.int .i64 k/\k<=6/\Hd (Ext [g] w wr)/\Hd (Bld wr base g pb (n+1+10*(6-k)) (some q) bc bs V l cnt)/\Hd (Blk wr rb 38 #[(0:Int),.slice none 0 0])) (fun i _=>(6-intOf i).toNat)
 case atStart=>exact⟨0,rfl,by omega,hd ah.o.nil,hd (ai.o.less (by omega)),aF⟩
 case round=>
  obtain⟨k,rfl,hk,HE,a7,ag⟩:=hrel;have aG:=HD.o.stm.lt;rw[a2.o] at aG;by_cases aV:k<6
  ·have aH:(k:Int)<6:=by omega
   go_wp2_with fail
   refine(Mg base g pb (n+1+10*(6-(k+1))) bc _ bs V l cnt sz wr (a7.o.less (by omega)) (by have:=ap.o;omega)).mono ?_
   rintro e w2 ⟨a,rfl,ha,hE,hS⟩;have aq:=hd ha;have ad:=hd (HE.o.trans hE);have au:=hd (a7.o.draw hE hS);have a1:=hd (ag.o.ext hE (by rw[jA];omega));have aI:rb<=wr.heap.size:=by rw[<-a2.o];exact HE.o.size
   have aJ:=a1.o.lt;have aK:=ag.o.lt;obtain⟨ax,AA,ac,ts⟩:=a;unfold afV;dsimp only;have ae:=hd (Ao.ext aq.o ((jF [] w2).alloc (.cells #[ax,.slice AA ts.length ac] 38)) (by simp));have ak:=hd (au.o.grow ((jF [] w2).alloc (.cells #[ax,.slice AA ts.length ac] 38)));have aw:=hd (ad.o.alloc (.cells #[ax,.slice AA ts.length ac] 38));have ay:=hd (a1.o.alloc (.cells #[ax,.slice AA ts.length ac] 38));have af:=hd (jK w2 38 #[ax,.slice AA ts.length ac]);go_upto_region 5 with fail
   generalize World.alloc w2 _=w3 at *;generalize w2.heap.size=ab at *;clear hE hS ha aq ad au a1 a7 ag;have qb:=af.o.cell;have az:=af.o.lt;go_wp2_with fail
   refine(Aez base g pb _ bc _ bs V l cnt ⟨ax,AA,ac,ts⟩ w3 ak.o (Ao.inn ae.o (by omega)) ae.o.1).mono ?_
   rintro e w4 ⟨r,rfl,a8⟩;have aA:=hd (aw.o.trans a8.nil);have aB:=hd (ak.o.grow a8);have aa:=hd (ay.o.ext a8 (by simp));have aC:=hd (af.o.ext a8 (by simp));have aL:=hd (Ao.ext ae.o a8 (by simp));clear a8 qb az aw ak ay af ae;by_cases hr:r<sz
   ·have aM:decide (r<sz)=true:=decide_eq_true hr;have qb:=aC.o.cell;have az:=aC.o.lt;have qr:=aa.o.cell;have aN:=aa.o.frozen;have aO:=aa.o.lt;have a6:=hd ((jL (b:=rb) (i:=0) (u:=.int .i64 ax) (.inl (by simp)) (jF [rb] w4)).trans (jL (b:=rb) (i:=1) (u:=.slice AA ts.length ac) (.inl (by simp)) (jF [rb] _)));have al:=hd ((aa.o.set_' 0 ax #[ax,.slice none 0 0] rfl).set_' 1 (.slice AA ts.length ac) #[ax,.slice AA ts.length ac] rfl);go_wp2_with fail
    have aP:=hd (Ao.ext (Ao.mono (Q:=fun b=>wr.heap.size<=b/\b≠rb) aL.o (fun b _ hb=>⟨hb,by omega⟩) (jD _)) a6.o (fun y hy=>by rw[jA.1 hy];exact fun hh=>hh.2 rfl));have am:=hd (aA.o.step a6.o fun y hy=>.inr (by rw[jA.1 hy];exact Nat.le_of_eq a2.o));have an:=hd (aB.o.stm.ext a6.o (by rw[jA];omega) (fun y hy=>by rw[jA.1 hy];have:=HD.o.blk.lt;have:=HD.o.bpb;have:=a2.o;omega));generalize World.setCell (World.setCell w4 _ _) _ _=w6 at *;exact bodyPost_ret (results_cell_row rfl _ _ rb 38 _ (0,0) _ rfl al.o underlying38 rfl (by kernel_rfl)) rfl ⟨⟨ax,AA,ac,ts⟩,rfl,Ao.mono aP.o (fun b _ hb=>by have:=hb.1;have:=a2.o;omega) (jD _),am.o,an.o.less (by omega)⟩
   ·have aM:decide (r<sz)=false:=decide_eq_false hr;go_wp2_with fail
    go_roundw
    case rel=>exact⟨k+1,by go_num,by omega,aA,aB,aa⟩
    case measure=>simp[intOf];omega
  ·have aQ:k=6:=by omega
   subst aQ;have qp:=a7.o.blk.cell;have aj:=a7.o.blk.lt;unfold Db at qp;go_wp2_with fail
   refine(Cb base g n sz _ (a7.o.stm.less (by omega)) (by have:=ap.o;omega)).mono ?_
   rintro e w2 ⟨r,rfl,_,hE,hS⟩;have ad:=hd (HE.o.trans hE);have a1:=hd (ag.o.ext hE (by rw[jA];omega));have aR:=hd hS;clear hE hS qp aj;have qr:=a1.o.cell;have aN:=a1.o.frozen;have aO:=a1.o.lt;have a6:=hd ((jL (b:=rb) (i:=0) (u:=.int .i64 r) (.inl (by simp)) (jF [rb] w2)).trans (jL (b:=rb) (i:=1) (u:=.slice none 0 0) (.inl (by simp)) (jF [rb] _)));have al:=hd ((a1.o.set_' 0 r #[r,.slice none 0 0] rfl).set_' 1 (.slice none 0 0) #[r,.slice none 0 0] rfl);go_wp2_with fail
   have am:=hd (ad.o.step a6.o fun y hy=>.inr (by rw[jA.1 hy];exact Nat.le_of_eq a2.o));have an:=hd (aR.o.ext a6.o (by rw[jA];omega) (fun y hy=>by rw[jA.1 hy];have:=HD.o.blk.lt;have:=HD.o.bpb;have:=a2.o;omega));generalize World.setCell (World.setCell w2 _ _) _ _=w6 at *;exact bodyPost_ret (results_cell_row rfl _ _ rb 38 _ (0,0) _ rfl al.o underlying38 rfl (by kernel_rfl)) rfl ⟨⟨r,none,0,[]⟩,rfl,Ra ..,am.o,an.o⟩
section
def JC (c base g n:Nat)(w0:World)(k:Nat)(w:World):Prop:=Ext [g] w0 w/\Stm w base g (n+c*k)
section
variable {c base g n:Nat} {w0:World}
theorem JC.less (k:Nat)(w:World)(h:JC c base g n w0 (k+1) w):JC c base g n w0 k w:=⟨h.1,h.2.less (by rw[Nat.mul_succ];omega)⟩
theorem JC.grow {k m:Nat}{w w':World}(h:JC c base g n w0 (k+1) w)(hE:Ext [] w w'):JC c base g n w0 k w':=⟨h.1.trans hE.nil,(h.2.ext hE (by simp) (by simp)).less (by rw[Nat.mul_succ];omega)⟩
theorem rgC {id:Nat}{Q:Exit->Act->World->Prop}{a:Act}{w:World}{l:List Oper}(p c base g n:Nat)(ks:List (Nat×Ba))(hs:Am (Bi ks) (Ext [g]))(h0:Stm w base g (n+c*p))
  (h:Bj prog l.toArray (JC c base g n w) (Ext [g]) (Bi ks) (fun a w=>wpList prog l.toArray Q (l.drop p) a w) 0 (l.take p) a (fun _ _=>True)) (hm:(prog).follows .mixedOrders=true:=by kernel_rfl) (hB:Ir l.toArray p=true:=by kernel_rfl):(Code.region id l.toArray true).wp prog Q a w:=
 Cu p (JC c base g n w) (Ext [g]) (Bi ks) hm hB JC.less hs ⟨(jF _ _).drew,h0⟩ h
end
section
variable {P:Program} {ops:Array Oper} {S:Nat->Option Ba} {Q:Act->World->Prop} {k:Nat} {o:Oper} {rest:List Oper} {a:Act} {F:Nat->World->Prop} {c base g n:Nat} {w0:World}
theorem Bz (s:Ba)(hS:S k=some s)(hw:Region.wanted o (yielded ops a.tmps)=true)
  (hh:∃(f:FuncId) (a1:Array Value),(∀w,(execOp a.eval o).run P w=.ok (.enter f a1) w)/\
   ∀w m,Ext [g] w0 w->Stm w base g (m+c)->n<=m->(∀e∈o.after,Region.binds .any e=true->F e.on w)->Calls P f a1 w fun e w'=>∃x,e=.returned (s.f x)/\s.V x w'/\Ext [g] w w'/\Stm w' base g m)
  (h:∀x:s.α,Bj P ops (JC c base g n w0) (Ext [g]) S Q (k+1) rest (a.put o.dst (s.f x)) (upd F k (s.V x))):Bj P ops (JC c base g n w0) (Ext [g]) S Q k (o :: rest) a F:=by
 obtain⟨f,a1,hr,hu⟩:=hh;refine Fq s hS hw ⟨f,a1,hr,fun w m hJ hF=>?_⟩ h
 refine(hu w (n+c*m) hJ.1 (hJ.2.less (by rw[Nat.mul_succ];omega)) (by omega) hF).mono ?_
 rintro e w' ⟨x,he,hV,hE,a2⟩;exact⟨x,he,hV,⟨hJ.1.trans hE,a2⟩,hE⟩
theorem Ew (s:Ba)(hS:S k=some s)(hw:Region.wanted o (yielded ops a.tmps)=true)
  (hr:∀w,Ext [g] w0 w->(∀e∈o.after,Region.binds .any e=true->F e.on w)->∃x ob,(execOp a.eval o).run P w=.ok (.value (s.f x)) (w.alloc ob)/\s.V x (w.alloc ob))
  (h:∀x:s.α,Bj P ops (JC c base g n w0) (Ext [g]) S Q (k+1) rest (a.put o.dst (s.f x)) (upd F k (s.V x))):Bj P ops (JC c base g n w0) (Ext [g]) S Q k (o :: rest) a F:=by
 refine Hl s hS hw (fun w m hJ hF=>?_) h
 obtain⟨x,ob,h1,h2⟩:=hr w hJ.1 hF;have hE:Ext [] w (w.alloc ob):=(jF _ _).alloc _;exact⟨x,_,h1,h2,hJ.grow (m:=0) hE,hE.nil⟩
end
theorem Cw {o:Oper}{F:Nat->World->Prop}{w:World}(hf:∀e∈o.after,Region.binds .any e=true->F e.on w)(j:Nat)(hj:o.after.any (fun e=>Region.binds .any e&&e.on==j)=true):F j w:=by
 obtain⟨e,he,hb⟩:=Array.any_eq_true'.1 hj;simp only[Bool.and_eq_true,beq_iff_eq] at hb;rw[<-hb.2];exact hf e he hb.1
def Xf:Af:=⟨0,none,0,[]⟩
def Aji:Ex:=.mk ⟨0,0,0,0,0,0,0,Xf,none,0⟩ []
def sAf (H:Nat):Ba:=⟨Af,Xf,afV,fun a w=>AfA (fun b=>H<=b) 4 w a⟩
def sEx (H N:Nat):Ba:=⟨Ex,Aji,exV,fun x w=>ExA (fun b=>H<=b) 10 w x/\Al x<=N⟩
def Pm (H N:Nat):Ba:=⟨Nat×Ex,(0,Aji),fun u=>.slice (some u.1) 1 1,fun u w=>H<=u.1/\Blk w u.1 41 (An u.2)/\ExA (fun b=>H<=b) 10 w u.2/\Al u.2<=N⟩
section
variable {H N g:Nat} (hg:g<H)
include hg
theorem sAf.stays:∀y w w',Ext [g] w w'->(sAf H).V y w->(sAf H).V y w':=fun y w w' hE h=>Ao.ext h hE fun x hx=>by rw[jA.1 hx];omega
theorem sEx.stays:∀y w w',Ext [g] w w'->(sEx H N).V y w->(sEx H N).V y w':=fun y w w' hE h=>⟨ExA.ext hE (fun x hx=>by rw[jA.1 hx];omega) h.1,h.2⟩
theorem Pm.stays:∀y w w',Ext [g] w w'->(Pm H N).V y w->(Pm H N).V y w':=fun y w w' hE h=>⟨h.1,h.2.1.ext hE (by rw[jA];have:=h.1;omega),ExA.ext hE (fun x hx=>by rw[jA.1 hx];omega) h.2.2.1,h.2.2.2⟩
end
def Ajj (buf:Int)(a:Af):EH:=⟨3,0,0,0,0,0,buf,a,none,0⟩
def Ajk (k:Int):EH:=⟨1,0,0,0,k,0,0,Xf,none,0⟩
def Ajl (a:Af):EH:=⟨2,0,0,0,0,0,0,a,none,0⟩
def Ajm (buf:Int)(a:Af)(lo m:Int)(kb:Nat):EH:=⟨4,0,lo,0,1,m,buf,a,some kb,1⟩
def Mh (op lo hi k:Int)(A:Option Addr)(c:Nat):EH:=⟨5,op,lo,hi,k,0,0,Xf,A,c⟩
theorem Abw (buf:Int)(a:Af):prog.built 41 [(0,.int .i64 3),(6,.int .i64 buf),(7,.agg #[.int .i64 a.base,.slice a.A a.ts.length a.cap])]=some (Dd (Ajj buf a) 0):=by kernel_rfl
theorem Abx (k:Int):prog.built 41 [(0,.int .i64 1),(4,.int .i64 k)]=some (Dd (Ajk k) 0):=by kernel_rfl
theorem Aby (a:Af):prog.built 41 [(0,.int .i64 2),(7,.agg #[.int .i64 a.base,.slice a.A a.ts.length a.cap])]=some (Dd (Ajl a) 0):=by kernel_rfl
theorem Abz (buf:Int)(a:Af)(lo m:Int)(kb:Nat):prog.built 41 [(0,.int .i64 4),(6,.int .i64 buf),(7,.agg #[.int .i64 a.base,.slice a.A a.ts.length a.cap]),(2,.int .i64 lo),(4,.int .i64 1),(5,.int .i64 m),(8,.slice (some kb) 1 1)]=some (Dd (Ajm buf a lo m kb) 1):=by kernel_rfl
theorem Ab0 (op:Int):prog.built 41 [(0,.int .i64 5),(1,.int .i64 op)]=some (Dd (Mh op 0 0 0 none 0) 0):=by kernel_rfl
theorem Fo (h:EH)(n:Nat):(Dd h n).all (·.oneCell')=true:=by
 simp[Dd]
 repeat(first|exact rfl|refine⟨rfl,?_⟩)
theorem Pn (h:EH)(n:Nat):zEx.size=(Dd h n).size:=rfl
theorem Fe (h:EH)(n:Nat):(prog.info? 41).map (·.size)=some (Dd h n).size:=Ch
def ExP (base g n N:Nat)(w:World)(e:Ending)(w':World):Prop:=∃x:Ex,e=.returned (exV x)/\ExA (fun b=>w.heap.size<=b) 10 w' x/\Al x<=N/\Ext [g] w w'/\Stm w' base g n
end
end Go.Proofs.YtfppibmloloakaaGreatDoor
