import Derived.Test.YtfppibmloloakaaGreatDoorP42
namespace Go.Proofs.YtfppibmloloakaaGreatDoor
open Go.RowKit Go.Proofs.Tryz
set_option linter.all false

theorem flat_getG {α:Type}{f:α->List Value}{s:Nat}(hs:∀x,(f x).length=s):∀{l:List α} {k j:Nat} {x:α},l[k]? = some x->j<s->(l.flatMap f)[k*s+j]? = (f x)[j]?
 | [],k,j,x,h,_=>by simp at h
 | y :: l,0,j,x,h,hj=>by
  cases h
  rw[List.flatMap_cons,Nat.zero_mul,Nat.zero_add,List.getElem?_append_left (by rw[hs];exact hj)]
 | y :: l,k+1,j,x,h,hj=>by
  have h1:=flat_getG hs (l:=l) (k:=k) (j:=j) (x:=x) h hj;rw[List.flatMap_cons,List.getElem?_append_right (by rw[hs,Nat.add_mul,Nat.one_mul];omega),hs,show(k+1)*s+j-s=k*s+j by rw[Nat.add_mul,Nat.one_mul];omega];exact h1
section
def SeqA {α:Type}(P:Nat->Prop)(N:Nat)(w:World)(A:Option Addr)(k:Nat)(cs:α->List Value)(l:List α):Prop:=
 l.length<=N/\(l=[]\/∃b:Nat,A=some ⟨b,0,none⟩/\P b/\b<w.heap.size/\∀(i:Nat) (x:α),l[i]? = some x->∀(j:Nat) (v:Value),(cs x)[j]? = some v->w.cell? ⟨b,i*k+j,none⟩=some v)
section
variable {α:Type} {P Q:Nat->Prop} {N M:Nat} {w w':World} {A:Option Addr} {k:Nat} {cs:α->List Value} {l:List α}
theorem SeqA.ext (h:SeqA P N w A k cs l){S:List Nat}(hE:Ext S w w')(hS:∀x∈S,¬P x):SeqA P N w' A k cs l:=by
 obtain⟨h0,h⟩:=h;refine⟨h0,?_⟩
 rcases h with h|⟨b,rfl,hp,hb,hc⟩
 ·exact .inl h
 ·exact .inr ⟨b,rfl,hp,Nat.lt_of_lt_of_le hb hE.size,fun i x hx j v hv=>hE.held (hc i x hx j v hv) fun hm=>hS _ hm hp⟩
theorem SeqA.mono (h:SeqA P N w A k cs l)(hP:∀b,b<w.heap.size->P b->Q b)(hN:N<=M):SeqA Q M w A k cs l:=by
 obtain⟨h0,h⟩:=h;refine⟨Nat.le_trans h0 hN,?_⟩
 rcases h with h|⟨b,rfl,hp,hb,hc⟩
 ·exact .inl h
 ·exact .inr ⟨b,rfl,hP b hb hp,hb,hc⟩
theorem SeqA.inn (h:SeqA P N w A k cs l)(hN:N<=1000000):SeqIn w A k cs l:=by
 obtain⟨h0,h⟩:=h;refine⟨Nat.le_trans h0 hN,?_⟩
 rcases h with h|⟨b,rfl,hp,hb,hc⟩
 ·exact .inl h
 ·exact .inr ⟨b,rfl,hc⟩
theorem SeqA.nil (P:Nat->Prop)(N:Nat)(w:World)(A:Option Addr)(k:Nat)(cs:α->List Value):SeqA P N w A k cs []:=⟨by simp,.inl rfl⟩
theorem SeqA.own {f:α->List Value}{s:Nat}(hs:∀x,(f x).length=s){w:World}{B:Nat}{e:TypeId}{A:Option Addr}{n c:Nat}{l:List α}(h:w.ownsRow B e s (.slice A n c) l.length (l.flatMap f))(hl:l.length<=N)(h0:0<s)
  (hP:∀g,A=some ⟨g,0,none⟩->B<=g->g<w.heap.size->P g):n=l.length/\SeqA P N w A s f l:=by
 obtain⟨A',c',hv,hc,hnz⟩:=own_form h;cases hv
 refine⟨rfl,hl,?_⟩
 by_cases hn:l=[]
 ·exact .inl hn
 ·obtain⟨g,rfl,h1,h2⟩:=hnz (List.length_pos_iff.2 hn)
  have hcell:∀i x,l[i]? = some x->∀j v,(f x)[j]? = some v->w.cell? ⟨g,i*s+j,none⟩=some v:=fun i x hx j v hv=>by
   refine cell_row h rfl ?_
   have hj:=(List.getElem?_eq_some_iff.1 hv).1;rw[hs] at hj;rw[flat_getG hs hx hj];exact hv
  obtain⟨x,hx⟩:∃x,l[0]? = some x:=⟨_,List.getElem?_eq_getElem (List.length_pos_iff.2 hn)⟩;obtain⟨v,hv⟩:∃v,(f x)[0]? = some v:=⟨_,List.getElem?_eq_getElem (by rw[hs];exact h0)⟩;have hlt:=World.block_lt_of_cell? w _ (hcell 0 x hx 0 v hv);exact .inr ⟨g,rfl,hP g rfl h1 hlt,hlt,hcell⟩
end
def AfA (P:Nat->Prop)(N:Nat)(w:World)(a:Af):Prop:=SeqA P N w a.A 2 tmC a.ts
inductive ExA (P:Nat->Prop) (N:Nat) (w:World):Ex->Prop
 | mk (h:EH) (ks:List Ex) (ha:AfA P N w h.at_) (hk:SeqA P N w h.A 10 exC ks) (hs:∀e∈ks,ExA P N w e):ExA P N w (.mk h ks)
inductive StI (P:Nat->Prop) (w:World):Nat->St->Prop
 | mk (N:Nat) (h:SH) (b:List St) (hc:SeqA P N w h.cA 2 afC h.conds) (hcs:∀a∈h.conds,AfA P N w a) (ha:AfA P N w h.at_) (hv:ExA P N w h.val) (hp:parts h.val<=N) (hz:h.var.size<=N) (hn:1<=N) (hb:SeqA P N w h.A 21 stC b) (hs:∀s∈b,StI P w (N-1) s):StI P w N (.mk h b)
def StA (P:Nat->Prop)(N:Nat)(w:World)(s:St):Prop:=StI P w N s
theorem StA.mk {P:Nat->Prop}{N:Nat}{w:World}(h:SH)(b:List St)(hc:SeqA P N w h.cA 2 afC h.conds)(hcs:∀a∈h.conds,AfA P N w a)(ha:AfA P N w h.at_)(hv:ExA P N w h.val)(hp:parts h.val<=N)(hz:h.var.size<=N)(hn:1<=N)(hb:SeqA P N w h.A 21 stC b)(hs:∀s∈b,StA P (N-1) w s):StA P N w (.mk h b):=StI.mk N h b hc hcs ha hv hp hz hn hb hs
def BfA (P:Nat->Prop)(N:Nat)(w:World)(b:Bf):Prop:=SeqA P N w b.A 1 inC b.data/\b.name.size<=N
section
variable {P Q:Nat->Prop} {N M:Nat} {w w':World}
theorem ExA.ext {S:List Nat}(hE:Ext S w w')(hS:∀x∈S,¬P x){e:Ex}(h:ExA P N w e):ExA P N w' e:=by
 induction h with
 | mk h ks ha hk hs ih=>exact .mk h ks (SeqA.ext ha hE hS) (hk.ext hE hS) ih
theorem ExA.mono (hP:∀b,b<w.heap.size->P b->Q b)(hN:N<=M){e:Ex}(h:ExA P N w e):ExA Q M w e:=by
 induction h with
 | mk h ks ha hk hs ih=>exact .mk h ks (SeqA.mono ha hP hN) (hk.mono hP hN) ih
theorem ExA.inn (hN:N<=1000000){e:Ex}(h:ExA P N w e):ExIn w e:=by
 induction h with
 | mk h ks ha hk hs ih=>exact .mk h ks (SeqA.inn ha hN) (hk.inn hN) ih
theorem ExA.all {h:EH}{ks:List Ex}(k:ExA P N w (.mk h ks)):AfA P N w h.at_/\SeqA P N w h.A 10 exC ks/\∀e∈ks,ExA P N w e:=by
 cases k;exact⟨by assumption,by assumption,by assumption⟩
theorem StA.ext {S:List Nat}(hE:Ext S w w')(hS:∀x∈S,¬P x){s:St}(h:StA P N w s):StA P N w' s:=by
 unfold StA at *
 induction h with
 | mk N h b hc hcs ha hv hp hz hn hb hs ih=>exact .mk N h b (hc.ext hE hS) (fun a h=>SeqA.ext (hcs a h) hE hS) (SeqA.ext ha hE hS) (hv.ext hE hS) hp hz hn (hb.ext hE hS) ih
theorem StA.mono (hP:∀b,b<w.heap.size->P b->Q b)(hN:N<=M){s:St}(h:StA P N w s):StA Q M w s:=by
 unfold StA at *
 induction h generalizing M with
 | mk N h b hc hcs ha hv hp hz hn hb hs ih=>exact .mk M h b (hc.mono hP hN) (fun a h=>SeqA.mono (hcs a h) hP hN) (SeqA.mono ha hP hN) (hv.mono hP hN) (Nat.le_trans hp hN) (Nat.le_trans hz hN) (Nat.le_trans hn hN) (hb.mono hP hN) fun s hs=>ih s hs (Nat.sub_le_sub_right hN 1)
theorem StA.inn (hN:N<=1000000){s:St}(h:StA P N w s):StIn w s:=by
 unfold StA at h
 induction h with
 | mk N h b hc hcs ha hv hp hz hn hb hs ih=>exact .mk h b (hc.inn hN) (fun a h=>SeqA.inn (hcs a h) hN) (SeqA.inn ha hN) (hv.inn hN) (Nat.le_trans hp hN) (Nat.le_trans hz hN) (hb.inn hN) fun s hs=>ih s hs (by omega)
theorem StA.all {h:SH}{b:List St}(k:StA P N w (.mk h b)):SeqA P N w h.cA 2 afC h.conds/\(∀a∈h.conds,AfA P N w a)/\AfA P N w h.at_/\ExA P N w h.val/\parts h.val<=N/\h.var.size<=N/\SeqA P N w h.A 21 stC b/\∀s∈b,StA P (N-1) w s:=by
 unfold StA at *;cases k;exact⟨by assumption,by assumption,by assumption,by assumption,by assumption,by assumption,by assumption,by assumption⟩
theorem StA.pos {s:St}(k:StA P N w s):1<=N:=by
 unfold StA at *;cases k;assumption
theorem BfA.ext {S:List Nat}(hE:Ext S w w')(hS:∀x∈S,¬P x){b:Bf}(h:BfA P N w b):BfA P N w' b:=⟨h.1.ext hE hS,h.2⟩
theorem BfA.mono (hP:∀b,b<w.heap.size->P b->Q b)(hN:N<=M){b:Bf}(h:BfA P N w b):BfA Q M w b:=⟨h.1.mono hP hN,Nat.le_trans h.2 hN⟩
theorem BfA.inn (hN:N<=1000000){b:Bf}(h:BfA P N w b):BfIn w b:=⟨h.1.inn hN,Nat.le_trans h.2 hN⟩
theorem afA_nil (P:Nat->Prop)(N:Nat)(w:World)(b:Int)(A:Option Addr)(c:Nat):AfA P N w ⟨b,A,c,[]⟩:=SeqA.nil ..
end
end
section
def TmR (w:World)(b:Nat)(ts:List (ByteArray×Int)):Prop:=∃cur,Blk w b 178 cur/\∀(i:Nat) (x:ByteArray×Int),ts[i]? = some x->cur[i*2]? = some (.string x.1)/\cur[i*2+1]? = some (.int .i64 x.2)
section
variable {w w':World} {b:Nat} {ts:List (ByteArray×Int)}
theorem TmR.ext (h:TmR w b ts){S:List Nat}(hE:Ext S w w')(hS:b∉S):TmR w' b ts:=by
 obtain⟨cur,h1,h2⟩:=h;exact⟨cur,h1.ext hE hS,h2⟩
theorem TmR.lt (h:TmR w b ts):b<w.heap.size:=by obtain⟨cur,h1,-⟩:=h;exact h1.lt
theorem TmR.fz (h:TmR w b ts)(i:Nat):w.frozen? ⟨b,i,none⟩=false:=by obtain⟨cur,h1,-⟩:=h;exact h1.frozen i
theorem TmR.at (h:TmR w b ts){i:Nat}(hi:i<ts.length):∃s k,ts[i]? = some (s,k)/\w.cell? ⟨b,i*2,none⟩=some (.string s)/\w.cell? ⟨b,i*2+1,none⟩=some (.int .i64 k):=by
 obtain⟨cur,h1,h2⟩:=h;obtain⟨e1,e2⟩:=h2 i _ (List.getElem?_eq_getElem hi);exact⟨_,_,List.getElem?_eq_getElem hi,(h1.cell _).trans e1,(h1.cell _).trans e2⟩
theorem TmR.set (h:TmR w b ts){j:Nat}(hj:j<ts.length)(x:ByteArray×Int):TmR ((w.setCell ⟨b,j*2,none⟩ (.string x.1)).setCell ⟨b,j*2+1,none⟩ (.int .i64 x.2)) b (ts.set j x):=by
 obtain⟨cur,h1,h2⟩:=h;obtain⟨e1,e2⟩:=h2 j _ (List.getElem?_eq_getElem hj);have hz1:=(Array.getElem?_eq_some_iff.1 e1).1;have hz2:=(Array.getElem?_eq_some_iff.1 e2).1;refine⟨_,(h1.set_ (j*2) (.string x.1)).set_ (j*2+1) (.int .i64 x.2),fun i y hy=>?_⟩
 rw[List.getElem?_set] at hy;by_cases hij:j=i
 ·subst hij;rw[if_pos rfl,if_pos hj] at hy;cases hy
  simp only[Array.getElem?_setIfInBounds,Array.size_setIfInBounds];constructor
  ·rw[if_neg (by omega),if_pos trivial,if_pos hz1]
  ·rw[if_pos trivial,if_pos hz2]
 ·rw[if_neg hij] at hy;obtain⟨f1,f2⟩:=h2 i y hy;simp only[Array.getElem?_setIfInBounds,Array.size_setIfInBounds];rw[if_neg (by omega),if_neg (by omega),if_neg (by omega),if_neg (by omega)];exact⟨f1,f2⟩
theorem TmR.seq (h:TmR w b ts){P:Nat->Prop}{N:Nat}(hl:ts.length<=N)(hP:P b):SeqA P N w (some ⟨b,0,none⟩) 2 tmC ts:=by
 refine⟨hl,.inr ⟨b,rfl,hP,h.lt,fun i x hx j v hv=>?_⟩⟩
 obtain⟨cur,h1,h2⟩:=h;obtain⟨e1,e2⟩:=h2 i x hx
 match j,hv with
 | 0,hv=>cases hv;exact(h1.cell _).trans e1
 | 1,hv=>cases hv;exact(h1.cell _).trans e2
theorem TmR.own {B n c:Nat}(h:w.ownsRow B 178 2 (.slice (some ⟨b,0,none⟩) n c) n (ts.flatMap tmC)):TmR w b ts:=by
 obtain⟨hl,h⟩:=h;rcases h with⟨h,-⟩|⟨g,cap,cur,hv,hb,hg,h1,h2,h3,h4⟩
 ·cases h
 ·cases hv
  refine⟨cur,hg,fun i x hx=>?_⟩
  have hx0:(ts.flatMap tmC)[i*2+0]? = some (.string x.1):=by rw[flat_getG (s:=2) (fun _=>rfl) hx (by decide)];rfl
  have hx1:(ts.flatMap tmC)[i*2+1]? = some (.int .i64 x.2):=by rw[flat_getG (s:=2) (fun _=>rfl) hx (by decide)];rfl
  rw[<-h4,List.getElem?_take] at hx0 hx1;split at hx0
  ·split at hx1
   ·rw[Array.getElem?_toList] at hx0 hx1;exact⟨hx0,hx1⟩
   ·cases hx1
  ·cases hx0
end
set_option maxRecDepth 100000 in
theorem cmp_any (x y:ByteArray×Int)(w:World):Calls Tryz.prog 199 #[tmV x,tmV y] w fun e w'=>∃r:Int,e=.returned (.int .i64 r)/\Ext [] w w':=by
 obtain⟨s,k⟩:=x;obtain⟨s',k'⟩:=y;unfold tmV;dsimp only;go_enter Tryz.func199,Tryz.ntmps199
 go_wp2_with fail
 all_goals
  go_ret
  exact⟨_,rfl,((Ext.refl [] w).alloc _).alloc _⟩
def SortP (A:Option Addr)(ts:List (ByteArray×Int))(w:World)(e:Ending)(w':World):Prop:=e=.returned (.tuple #[])/\∃ts',ts'.length=ts.length/\((ts'=[]/\Ext [] w w')\/∃b,A=some ⟨b,0,none⟩/\TmR w' b ts'/\Ext [b] w w')
end
section
section
variable {P:Program} {ops:Array Oper} {S:Nat->Option Spec} {Q:Act->World->Prop} {k:Nat} {o:Oper} {rest:List Oper} {a:Act} {F:Nat->World->Prop} {w0:World}
theorem rel_anyE (hS:S k=some sAny)(hw:Region.wanted o (yielded ops a.tmps)=true)
  (hh:∃(f:FuncId) (args:Array Value),(∀w,(execOp a.eval o).run P w=.ok (.enter f args) w)/\∀w,Calls P f args w fun e w'=>∃r:Int,e=.returned (.int .i64 r)/\Ext [] w w')
  (h:∀x:Int,relAt P ops (JE w0) (Ext []) S Q (k+1) rest (a.put o.dst (.int .i64 x)) (upd F k (fun _=>True))):relAt P ops (JE w0) (Ext []) S Q k (o :: rest) a F:=by
 obtain⟨f,args,hr,hu⟩:=hh;refine relAt_call sAny hS hw ⟨f,args,hr,fun w n' hJ _=>?_⟩ h
 refine(hu w).mono ?_
 rintro e w' ⟨r,rfl,hE⟩;exact⟨r,rfl,trivial,Ext.trans hJ hE,hE⟩
end
theorem insertion_few (n c:Nat)(N:Int)(A:Option Addr)(f:Value)(hn0:0<=N)(hn:N<=1)(w:World) :
  Calls Tryz.prog 234 #[.slice A n c,.int .i64 0,.int .i64 N,f] w fun e w'=>e=.returned (.tuple #[])/\w=w':=by
 go_enter Tryz.func234,Tryz.ntmps234
 go_wp2
 go_loop [8] (fun i=>i=.int .i64 1) (fun i=>0)
 case atStart=>rfl
 case round=>
  subst hrel;have h1:¬(1<N):=by omega
  go_wp2
  exact bodyPost_end (results_none rfl _ _ _) rfl ⟨rfl,rfl⟩
theorem kinds_one {a:Nat}{x:Spec}{R:Nat->World->World->Prop}(hx:∀j,j≠a->∀u w w',R j w w'->x.V u w->x.V u w'):∀i s j,kinds [(a,x)] i=some s->j≠i->∀u w w',R j w w'->s.V u w->s.V u w':=fun i s j h hj=>by
 have hm:=kinds_mem h;simp only[List.mem_cons,Prod.mk.injEq,List.not_mem_nil,or_false] at hm;obtain⟨rfl,rfl⟩:=hm;exact hx j hj
theorem tm_at {w:World}{b i:Nat}{x:ByteArray×Int}{ts:List (ByteArray×Int)}(hx:ts[i]? = some x)(h:TmR w b ts):w.cell? ⟨b,i*2,none⟩=some (.string x.1)/\w.cell? ⟨b,i*2+1,none⟩=some (.int .i64 x.2):=by
 obtain⟨cur,h1,h2⟩:=h;obtain⟨e1,e2⟩:=h2 i x hx;exact⟨(h1.cell _).trans e1,(h1.cell _).trans e2⟩
set_option maxHeartbeats 8000000 in
set_option maxRecDepth 100000 in
theorem insertion_any (n c b:Nat)(ts:List (ByteArray×Int))(w:World)(hl:ts.length=n)(h2:2<=n)(hn:n<=12)(h:TmR w b ts) :
  Calls Tryz.prog 234 #[.slice (some ⟨b,0,none⟩) n c,.int .i64 0,.int .i64 n,.func (.func 199) #[] #[]] w fun e w'=>e=.returned (.tuple #[])/\∃ts',ts'.length=n/\TmR w' b ts'/\Ext [b] w w':=by
 have HT:=hd h;have HL:=hd hl;clear h hl;go_enter Tryz.func234,Tryz.ntmps234
 go_wp2_with fail
 go_loopw [8,9] (fun i j wr=>∃(k:Nat) (ts':List (ByteArray×Int)),i=.int .i64 k/\1<=k/\k<=n/\Hd (ts'.length=n)/\Hd (TmR wr b ts')/\Hd (Ext [b] w wr)) (fun i _ _=>(n-intOf i).toNat)
 case atStart=>exact⟨1,ts,rfl,by omega,by omega,HL,HT,hd (Ext.refl _ _)⟩
 case round=>
  obtain⟨k,ts',rfl,hk1,hkn,HL',HT',HE'⟩:=hrel;by_cases hlt:k<n
  ·have hlt':(k:Int)<n:=by omega
   go_wp2_with fail
   rename World=>wq
   go_loopw [9] (fun j wr=>∃(m:Nat) (ts':List (ByteArray×Int)),j=.int .i64 m/\m<=k/\Hd (ts'.length=n)/\Hd (TmR wr b ts')/\Hd (Ext [b] w wr)) (fun j _=>(intOf j).toNat)
   case atStart=>exact⟨k,ts',rfl,Nat.le_refl _,HL',HT',HE'⟩
   case round=>
    obtain⟨m,ts2,rfl,hmk,HL2,HT2,HE2⟩:=hrel;by_cases hm0:m=0
    ·subst hm0;have h0:(0<(0:Int))=False:=by simp
     go_wp2_with fail
     go_quiet (fail)
     go_wp2_with fail
     go_roundw
     case rel=>exact⟨k+1,ts2,by go_num,by omega,by omega,HL2,HT2,hd (HE2.o.drewN _)⟩
     case measure=>simp[intOf];omega
    ·obtain⟨p,hpm⟩:∃p,p+1=m:=⟨m-1,by omega⟩;have hp:decide (0<m)=true:=decide_eq_true (by omega);have hpn:(m:Int)<n:=by omega
     have hpn0:(p:Int)<n:=by omega
     have hpp:(m:Int)-1=(p:Int):=by omega
     have HPM:=hd hpm;clear hpm hm0;go_wp2_with fail
     refine wp_region_rel 17 (JE _) (Ext []) (kinds [(14,sAny)]) (by kernel_rfl) (by kernel_rfl) JE.less ?_ JE.start ?_
     ·exact Stays.cons sAny.stays Stays.nil
     simp only[List.take_succ_cons,List.take_zero,List.drop_succ_cons,List.drop_zero];obtain⟨s1,k1,hx1,-,-⟩:=HT2.o.at (i:=m) (by rw[HL2.o];omega);obtain⟨s0,k0,hx0,-,-⟩:=HT2.o.at (i:=p) (by rw[HL2.o];have:=HPM.o;omega);have HX1:=hd hx1;have HX0:=hd hx0;have HCE:=hd (fun W (hW:Ext [] wr W)=>And.intro (HT2.o.ext hW (by simp)).lt (And.intro (tm_at HX1.o (HT2.o.ext hW (by simp))) (tm_at HX0.o (HT2.o.ext hW (by simp)))));clear hx1 hx0
     repeat
      refine relAt_det rfl rfl ?_
      apply Exists.intro
      refine⟨fun wr nr hJ=>?_,?_⟩
      ·have hc:=HCE.o wr hJ;have hc1:=hc.1;have hc2:=hc.2.1;have hc3:=hc.2.2;clear hc;obtain⟨c1,c2⟩:=hc2;obtain⟨c3,c4⟩:=hc3;clear hJ;(go_simp;try go_bits)
       first|rfl|exact⟨rfl,rfl⟩
      simp only[Act.put,List.setIfInBounds_toArray,List.set_cons_succ,List.set_cons_zero]
     refine rel_anyE rfl rfl ?_ ?_
     ·apply Exists.intro
      apply Exists.intro
      refine⟨fun wr=>?_,fun wr=>?_⟩
      ·go_simp
       first|exact⟨rfl,rfl⟩|rfl
      ·exact cmp_any (s1,k1) (s0,k0) wr
     intro (r:Int);simp only[Act.put,List.setIfInBounds_toArray,List.set_cons_succ,List.set_cons_zero]
     repeat
      refine relAt_det rfl rfl ?_
      apply Exists.intro
      refine⟨fun wr nr hJ=>?_,?_⟩
      ·skip
       clear hJ;(go_simp;try go_bits)
       first|rfl|exact⟨rfl,rfl⟩
      simp only[Act.put,List.setIfInBounds_toArray,List.set_cons_succ,List.set_cons_zero]
     refine relAt_nil (fun wy hJ hF=>?_)
     have HEy:=hd (HE2.o.trans (Ext.nil hJ));have HTy:=hd (HT2.o.ext hJ (by simp));clear hJ hF HCE;by_cases hr:r<0
     ·have hrd:decide (r<0)=true:=decide_eq_true hr;go_wp2_with fail
      refine rgA 16 15 [b] [(15,⟨Unit,(),fun _=>undef,fun _ w=>TmR w b (ts2.set m (s0,k0))⟩)] rfl (by simp[kinds]) (fun oi h=>by cases h;rfl) ?_ ?_
      ·exact kinds_one fun j hj u w w' hR h=>h.ext (hR.pre hj) (by simp)
      simp only[List.take_succ_cons,List.take_zero,List.drop_succ_cons,List.drop_zero];have HCY:=hd (fun W (hW:Ext [] wy W)=>And.intro (HTy.o.ext hW (by simp)).lt (And.intro (tm_at HX1.o (HTy.o.ext hW (by simp))) (tm_at HX0.o (HTy.o.ext hW (by simp)))))
      repeat
       refine relAt_detU rfl rfl ?_
       apply Exists.intro
       refine⟨fun wr nr hg hJ=>?_,?_⟩
       ·clear hg;clear hJ;(go_simp;try go_bits)
        first|rfl|exact⟨rfl,rfl⟩
       simp only[Act.put,List.setIfInBounds_toArray,List.set_cons_succ,List.set_cons_zero]
      refine relAt_detU rfl rfl ?_
      apply Exists.intro
      refine⟨fun wr nr hg hJ=>?_,?_⟩
      ·have hA:=hJ.pre (hg.later 15 (by kernel_rfl));have hc:=HCY.o wr hA;have hc1:=hc.1;have hc2:=hc.2.1;have hc3:=hc.2.2;clear hc hA;obtain⟨c1,c2⟩:=hc2;obtain⟨c3,c4⟩:=hc3;clear hJ;(go_simp;try go_bits)
       first|rfl|exact⟨rfl,rfl⟩
      simp only[Act.put,List.setIfInBounds_toArray,List.set_cons_succ,List.set_cons_zero]
      repeat
       refine relAt_detU rfl rfl ?_
       apply Exists.intro
       refine⟨fun wr nr hg hJ=>?_,?_⟩
       ·clear hg;clear hJ;(go_simp;try go_bits)
        first|rfl|exact⟨rfl,rfl⟩
       simp only[Act.put,List.setIfInBounds_toArray,List.set_cons_succ,List.set_cons_zero]
      refine relAt_detU rfl rfl ?_
      apply Exists.intro
      refine⟨fun wr nr hg hJ=>?_,?_⟩
      ·have hA:=hJ.pre (hg.later 15 (by kernel_rfl));have hc:=HCY.o wr hA;have hc1:=hc.1;have hc2:=hc.2.1;have hc3:=hc.2.2;clear hc hA;obtain⟨c1,c2⟩:=hc2;obtain⟨c3,c4⟩:=hc3;clear hJ;(go_simp;try go_bits)
       first|rfl|exact⟨rfl,rfl⟩
      simp only[Act.put,List.setIfInBounds_toArray,List.set_cons_succ,List.set_cons_zero]
      repeat
       refine relAt_detU rfl rfl ?_
       apply Exists.intro
       refine⟨fun wr nr hg hJ=>?_,?_⟩
       ·clear hg;clear hJ;(go_simp;try go_bits)
        first|rfl|exact⟨rfl,rfl⟩
       simp only[Act.put,List.setIfInBounds_toArray,List.set_cons_succ,List.set_cons_zero]
      refine relAt_sayU _ rfl rfl (fun _=>rfl) (fun w12 r12 hg hJ hf=>?_) ?_
      ·have hA:=hJ.pre hg.mine;have hT:=HTy.o.ext hA (by simp);have HS:=hd (hT.set (j:=m) (by rw[HL2.o];omega) (s0,k0));have hE:Ext [b] w12 ((w12.setCell ⟨b,m*2,none⟩ (.string s0)).setCell ⟨b,m*2+1,none⟩ (.int .i64 k0)):=Ext.setAt (.inl (by simp)) (Ext.setAt (.inl (by simp)) (Ext.refl _ _));refine⟨(),(w12.setCell ⟨b,m*2,none⟩ (.string s0)).setCell ⟨b,m*2+1,none⟩ (.int .i64 k0),?_,HS.o,hJ.app hE,by unfold RA1;rw[if_pos rfl];exact hE⟩
       have hc:=HCY.o w12 hA;have hc1:=hc.1;obtain⟨c1,c2⟩:=hc.2.1;have hf0:=hT.fz (m*2);have hf1:=hT.fz (m*2+1);clear hc hA hT hE hJ hf hg;go_simp
      rintro⟨⟩;simp only[Act.put,List.setIfInBounds_toArray,List.set_cons_succ,List.set_cons_zero];refine relAt_nilU (fun w13 r13 hr hJ hF=>?_)
      have hT:TmR w13 b (ts2.set m (s0,k0)):=hF 15;have HT13:=hd hT;have HE13:=hd (HEy.o.trans hJ.all);have hlen:p<(ts2.set m (s0,k0)).length:=by rw[List.length_set,HL2.o];have:=HPM.o;omega
      have HTZ:=hd (hT.set (j:=p) hlen (s1,k1));have HEZ:=hd (HE13.o.trans (Ext.setAt (b:=b) (i:=p*2+1) (u:=.int .i64 k1) (.inl (by simp)) (Ext.setAt (b:=b) (i:=p*2) (u:=.string s1) (.inl (by simp)) (Ext.refl [b] w13))));obtain⟨s9,k9,-,c5,c6⟩:=hT.at hlen;have c7:=hT.fz (p*2);have c8:=hT.fz (p*2+1);have c9:=hT.lt;clear hJ hF hr hT hlen HCY;go_wp2_with fail
      go_roundw
      case rel=>exact⟨p,_,by go_num,by have:=HPM.o;omega,hd (by rw[List.length_set,List.length_set];exact HL2.o),HTZ,HEZ⟩
      case measure=>simp[intOf];have:=HPM.o;omega
     ·have hrd:decide (r<0)=false:=decide_eq_false hr;go_wp2_with fail
      go_roundw
      case rel=>exact⟨k+1,ts2,by go_num,by omega,by omega,HL2,HTy,HEy⟩
      case measure=>simp[intOf];omega
  ·have hkn2:k=n:=by omega
   subst hkn2;go_wp2_with fail
   exact bodyPost_end (results_none rfl _ _ _) rfl ⟨rfl,ts',HL'.o,HT'.o,HE'.o⟩
end
def vcmp:Value:=.func (.func 199) #[] #[]
theorem insertion_all (n c:Nat)(A:Option Addr)(ts:List (ByteArray×Int))(w:World)(hl:ts.length=n)(hn:n<=12)(h:ts=[]\/∃b,A=some ⟨b,0,none⟩/\TmR w b ts) :
  Calls Tryz.prog 234 #[.slice A n c,.int .i64 0,.int .i64 n,vcmp] w (SortP A ts w):=by
 by_cases h2:2<=n
 ·rcases h with rfl|⟨b,rfl,hT⟩
  ·simp at hl;omega
  ·refine(insertion_any n c b ts w hl h2 hn hT).mono ?_
   rintro e w' ⟨rfl,ts',h1,h3,h4⟩;exact⟨rfl,ts',by omega,.inr ⟨b,rfl,h3,h4⟩⟩
 ·refine(insertion_few n c n A vcmp (by omega) (by omega) w).mono ?_
  rintro e w' ⟨rfl,rfl⟩;refine⟨rfl,ts,rfl,?_⟩
  rcases h with h|⟨b,h1,h3⟩
  ·exact .inl ⟨h,Ext.refl _ _⟩
  ·exact .inr ⟨b,h1,h3,Ext.refl _ _⟩
set_option maxRecDepth 100000 in
theorem pdq_any (n c:Nat)(A:Option Addr)(ts:List (ByteArray×Int))(k:Int)(w:World)(hl:ts.length=n)(hn:n<=12)(h:ts=[]\/∃b,A=some ⟨b,0,none⟩/\TmR w b ts) :
  Calls Tryz.prog 226 #[.slice A n c,.int .i64 0,.int .i64 n,.int .i64 k,vcmp] w (SortP A ts w):=by
 have HI:=hd (insertion_all n c A ts w hl hn h);have hn12:(n:Int)<=12:=by omega
 clear hl h;unfold vcmp at *;go_enter Tryz.func226,Tryz.ntmps226
 go_wp2_with fail
 go_loop [1,2,3,10,11] (fun a b l x y=>a=.int .i64 0/\b=.int .i64 n) (fun _ _ _ _ _=>0)
 case atStart=>exact⟨rfl,rfl⟩
 case round=>
  obtain⟨rfl,rfl⟩:=hrel;go_wp2_with fail
  refine HI.o.mono ?_
  rintro e w' ⟨rfl,hs⟩;have HS:=hd hs;clear hs;go_wp2_with fail
  exact bodyPost_ret (results_none rfl _ _ _) rfl ⟨rfl,HS.o⟩
set_option maxRecDepth 100000 in
theorem len_any (n:Nat)(hn:n<=4)(w:World):Calls Tryz.prog 118 #[.int .u64 n] w fun e w'=>(∃k:Int,e=.returned (.int .i64 k))/\w=w':=by
 have h:n=0\/n=1\/n=2\/n=3\/n=4:=by omega
 rcases h with rfl|rfl|rfl|rfl|rfl
 all_goals
  go_enter Tryz.func118,Tryz.ntmps118
  go_wp2
  go_ret
  exact⟨⟨_,rfl⟩,rfl⟩
set_option maxRecDepth 100000 in
theorem sortT_any (n c:Nat)(A:Option Addr)(ts:List (ByteArray×Int))(w:World)(hl:ts.length=n)(hn:n<=4)(h:ts=[]\/∃b,A=some ⟨b,0,none⟩/\TmR w b ts) :
  Calls Tryz.prog 198 #[.slice A n c,vcmp] w (SortP A ts w):=by
 have HP:=hd (fun k=>pdq_any n c A ts k w hl (by omega) h);have HL:=hd (len_any n hn w);clear hl h;unfold vcmp at *;have h:n=0\/n=1\/n=2\/n=3\/n=4:=by omega
 rcases h with rfl|rfl|rfl|rfl|rfl
 all_goals
  go_enter Tryz.func198,Tryz.ntmps198
  go_wp2_with fail
  refine HL.o.mono ?_
  rintro e w' ⟨⟨k,rfl⟩,rfl⟩;go_wp2_with fail
  refine(HP.o k).mono ?_
  rintro e w' ⟨rfl,hs⟩;have HS:=hd hs;clear hs;go_wp2_with fail
  exact bodyPost_end (results_none rfl _ _ _) rfl ⟨rfl,HS.o⟩
section
theorem own_blkG {w:World}{B e s n:Nat}{v:Value}{l:List Value}(h:w.ownsRow B e s v n l){g:Nat}(hg:v.ownBlock=some g):∃C,Blk w g e C:=by
 rcases h.2 with⟨h1,_⟩|⟨g',cap,cur,h1,_,h3,_⟩
 ·rw[h1] at hg;cases hg
 ·rw[h1] at hg;cases hg;exact⟨cur,h3⟩
theorem own_apart {w:World}{B e s n:Nat}{v:Value}{l:List Value}(h:w.ownsRow B e s v n l){b:Nat}{t:TypeId}{C:Array Value}(hb:Blk w b t C)(ht:e≠t):∀g,v.ownBlock=some g->g≠b:=fun g hg e1=>by
 obtain⟨D,hD⟩:=own_blkG h hg;rw[e1] at hD;exact ht (hD.type hb)
theorem Stm.blk {w:World}{base g n:Nat}(h:Stm w base g n):∃C,Blk w g 25 C:=by
 obtain⟨A,len,cap,k,hB,-⟩:=h;exact⟨_,hB⟩
def bldA (g:Nat)(bA:Option Addr)(nb bc:Nat)(V:Value)(cnt:Int):Array Value:=#[.pointer (some ⟨g,0,none⟩),.slice bA nb bc,.slice none 0 0,V,.int .i64 cnt]
structure Bld (w:World)(base g pb n:Nat)(bA:Option Addr)(bc:Nat)(bs:List Bf)(V:Value)(l:List St)(cnt:Int):Prop where
 stm:Stm w base g n
 blk:Blk w pb 188 (bldA g bA bs.length bc V cnt)
 bpb:base<=pb
 buf:w.ownsRow base 45 4 (.slice bA bs.length bc) bs.length (bs.flatMap bfC)
 row:w.ownsRow base 43 21 V l.length (l.flatMap stC)
 bne:1<=bs.length
 b9:bs.length<=9
 bsz:∀b∈bs,1<=b.size/\b.size<=1000
 l3:l.length<=3
section
variable {w w':World} {base g pb n m bc:Nat} {bA:Option Addr} {bs:List Bf} {V:Value} {l:List St} {cnt:Int}
theorem Bld.pg (h:Bld w base g pb n bA bc bs V l cnt):pb≠g:=fun e=>by
 obtain⟨C,hC⟩:=h.stm.blk;rw[<-e] at hC;exact absurd (hC.type h.blk) (by decide)
theorem Bld.draw (h:Bld w base g pb n bA bc bs V l cnt)(hE:Ext [g] w w')(hS:Stm w' base g m):Bld w' base g pb m bA bc bs V l cnt:=by
 obtain⟨C,hC⟩:=h.stm.blk;refine⟨hS,h.blk.ext hE (by rw[List.mem_singleton];exact h.pg),h.bpb,own_ext h.buf hE fun q hq=>?_,own_ext h.row hE fun q hq=>?_,h.bne,h.b9,h.bsz,h.l3⟩
 ·rw[List.mem_singleton];exact own_apart h.buf hC (by decide) q hq
 ·rw[List.mem_singleton];exact own_apart h.row hC (by decide) q hq
theorem Bld.grow (h:Bld w base g pb n bA bc bs V l cnt)(hE:Ext [] w w'):Bld w' base g pb n bA bc bs V l cnt:=
 ⟨h.stm.ext hE (by simp) (by simp),h.blk.ext hE (by simp),h.bpb,own_ext h.buf hE (by simp),own_ext h.row hE (by simp),h.bne,h.b9,h.bsz,h.l3⟩
theorem Bld.less (h:Bld w base g pb n bA bc bs V l cnt)(hm:m<=n):Bld w base g pb m bA bc bs V l cnt:=⟨h.stm.less hm,h.blk,h.bpb,h.buf,h.row,h.bne,h.b9,h.bsz,h.l3⟩
theorem stC_len (s:St):(stC s).length=21:=by cases s;rfl
theorem bfC_len (b:Bf):(bfC b).length=4:=rfl
theorem Bld.at (h:Bld w base g pb n bA bc bs V l cnt){i:Nat}(hi:i<l.length):∃va vc s,V=.slice (some ⟨va,0,none⟩) l.length vc/\va<w.heap.size/\l[i]? = some s/\∀(j:Nat) (v:Value),(stC s)[j]? = some v->w.cell? ⟨va,i*21+j,none⟩=some v:=by
 obtain⟨A,c,rfl,-,hnz⟩:=own_form h.row;obtain⟨q,rfl,-,hq⟩:=hnz (by omega);have hs:l[i]? = some l[i]:=List.getElem?_eq_getElem hi;refine⟨q,c,_,rfl,hq,hs,fun j v hv=>cell_row h.row rfl ?_⟩
 have hj:=(List.getElem?_eq_some_iff.1 hv).1;rw[stC_len] at hj;rw[flat_getG stC_len hs hj];exact hv
theorem Bld.bufAt (h:Bld w base g pb n bA bc bs V l cnt){i:Nat}(hi:i<bs.length):∃q b,bA=some ⟨q,0,none⟩/\q<w.heap.size/\bs[i]? = some b/\∀(j:Nat) (v:Value),(bfC b)[j]? = some v->w.cell? ⟨q,i*4+j,none⟩=some v:=by
 obtain⟨A,c,hv,-,hnz⟩:=own_form h.buf;cases hv
 obtain⟨q,rfl,-,hq⟩:=hnz (by omega);have hs:bs[i]? = some bs[i]:=List.getElem?_eq_getElem hi;refine⟨q,_,rfl,hq,hs,fun j v hv=>cell_row h.buf rfl ?_⟩
 have hj:=(List.getElem?_eq_some_iff.1 hv).1;rw[bfC_len] at hj;rw[flat_getG bfC_len hs hj];exact hv
end
def AffP (base g n:Nat)(w:World)(e:Ending)(w':World):Prop:=∃a:Af,e=.returned (afV a)/\AfA (fun b=>w.heap.size<=b) 4 w' a/\Ext [g] w w'/\Stm w' base g n
theorem tmInfo:∃i,Tryz.prog.info? 178=some i/\i.zero=some (.agg #[.string ⟨#[]⟩,.int .i64 0])/\i.size=2/\i.bytes=24:=info_parts (show((Tryz.prog).info? 178).map (fun i=>(i.zero,i.size,i.bytes))=some (some (.agg #[.string ⟨#[]⟩,.int .i64 0]),2,24) by kernel_rfl)
structure AfSt (w:World)(base g pb n:Nat)(bA:Option Addr)(bc:Nat)(bs:List Bf)(V:Value)(l:List St)(cnt:Int)(rb ab:Nat)(x:Int)(v:Value)(ts:List (ByteArray×Int))(wx:World):Prop where
 ext:Ext [g] w wx
 bld:Bld wx base g pb n bA bc bs V l cnt
 res:Blk wx rb 38 #[.int .i64 0,.slice none 0 0]
 blk:Blk wx ab 38 #[.int .i64 x,v]
 own:wx.ownsRow w.heap.size 178 2 v ts.length (ts.flatMap tmC)
 rb0:w.heap.size<=rb
 ab0:w.heap.size<=ab
 rab:rb≠ab
 g0:g<w.heap.size
section
variable {w wx wy:World} {base g pb n m bc:Nat} {bA:Option Addr} {bs:List Bf} {V:Value} {l:List St} {cnt:Int} {rb ab:Nat} {x:Int} {v:Value} {ts:List (ByteArray×Int)}
theorem AfSt.draw (h:AfSt w base g pb n bA bc bs V l cnt rb ab x v ts wx)(hE:Ext [g] wx wy)(hS:Stm wy base g m):AfSt w base g pb m bA bc bs V l cnt rb ab x v ts wy:=
 ⟨h.ext.trans hE,h.bld.draw hE hS,h.res.ext hE (by have:=h.rb0;have:=h.g0;rw[List.mem_singleton];omega),h.blk.ext hE (by have:=h.ab0;have:=h.g0;rw[List.mem_singleton];omega),
  own_ext h.own hE fun q hq=>by have:=own_base h.own q hq;have:=h.g0;rw[List.mem_singleton];omega,h.rb0,h.ab0,h.rab,h.g0⟩
theorem AfSt.grow (h:AfSt w base g pb n bA bc bs V l cnt rb ab x v ts wx)(hE:Ext [] wx wy):AfSt w base g pb n bA bc bs V l cnt rb ab x v ts wy:=
 ⟨h.ext.trans hE.nil,h.bld.grow hE,h.res.ext hE (by simp),h.blk.ext hE (by simp),own_ext h.own hE (by simp),h.rb0,h.ab0,h.rab,h.g0⟩
theorem AfSt.less (h:AfSt w base g pb n bA bc bs V l cnt rb ab x v ts wx)(hm:m<=n):AfSt w base g pb m bA bc bs V l cnt rb ab x v ts wx:=⟨h.ext,h.bld.less hm,h.res,h.blk,h.own,h.rb0,h.ab0,h.rab,h.g0⟩
theorem Bld.far {S:List Nat}{w0:World}(h:Bld wx base g pb n bA bc bs V l cnt)(hE:Ext S wx wy)(h0:Bld w0 base g pb m bA bc bs V l cnt)(hS:∀q∈S,w0.heap.size<=q):Bld wy base g pb n bA bc bs V l cnt:=by
 have hb:∀q∈S,base<=q:=fun q hq=>by have:=hS q hq;have:=h0.blk.lt;have:=h0.bpb;omega
 refine⟨h.stm.ext hE (fun hm=>by have:=hS _ hm;have:=h0.stm.lt;omega) hb,h.blk.ext hE (fun hm=>by have:=hS _ hm;have:=h0.blk.lt;omega),h.bpb,own_ext h.buf hE fun q hq hm=>?_,own_ext h.row hE fun q hq hm=>?_,h.bne,h.b9,h.bsz,h.l3⟩
 ·have:=hS _ hm;have:=(h0.buf.lt q hq).2;omega
 ·have:=hS _ hm;have:=(h0.row.lt q hq).2;omega
theorem AfSt.far {S:List Nat}(h:AfSt w base g pb n bA bc bs V l cnt rb ab x v ts wx)(h0:Bld w base g pb m bA bc bs V l cnt)(hE:Ext S wx wy)(hS:∀q∈S,w.heap.size<=q):Ext [g] w wy/\Bld wy base g pb n bA bc bs V l cnt:=
 ⟨h.ext.step hE fun q hq=>.inr (hS q hq),h.bld.far hE h0 hS⟩
theorem AfSt.base' (h:AfSt w base g pb n bA bc bs V l cnt rb ab x v ts wx)(h0:Bld w base g pb m bA bc bs V l cnt)(y:Int):AfSt w base g pb n bA bc bs V l cnt rb ab y v ts (wx.setCell ⟨ab,0,none⟩ (.int .i64 y)):=by
 have hE:Ext [ab] wx (wx.setCell ⟨ab,0,none⟩ (.int .i64 y)):=Ext.setAt (.inl (by simp)) (Ext.refl _ _);obtain⟨h1,h2⟩:=h.far h0 hE (fun q hq=>by rw[List.mem_singleton.1 hq];exact h.ab0);exact⟨h1,h2,h.res.ext hE (by rw[List.mem_singleton];exact h.rab),h.blk.set_' 0 _ _ rfl,own_ext h.own hE fun q hq=>by rw[List.mem_singleton];exact own_apart h.own h.blk (by decide) q hq,h.rb0,h.ab0,h.rab,h.g0⟩
theorem AfSt.terms (h:AfSt w base g pb n bA bc bs V l cnt rb ab x v ts wx)(h0:Bld w base g pb m bA bc bs V l cnt){S:List Nat}(hE:Ext S wx wy)(hS:∀q∈S,v.ownBlock=some q){u:Value}{us:List (ByteArray×Int)}
  (hO:wy.ownsRow w.heap.size 178 2 u us.length (us.flatMap tmC)):AfSt w base g pb n bA bc bs V l cnt rb ab x u us (wy.setCell ⟨ab,1,none⟩ u):=by
 have hE2:Ext [ab] wy (wy.setCell ⟨ab,1,none⟩ u):=Ext.setAt (.inl (by simp)) (Ext.refl _ _);have hS1:∀q∈S,w.heap.size<=q:=fun q hq=>own_base h.own q (hS q hq)
 obtain⟨h1,h2⟩:=h.far h0 hE hS1;have hb:Blk wy ab 38 #[.int .i64 x,v]:=h.blk.ext hE fun hm=>own_apart h.own h.blk (by decide) _ (hS _ hm) rfl
 have hr:Blk wy rb 38 #[.int .i64 0,.slice none 0 0]:=h.res.ext hE fun hm=>own_apart h.own h.res (by decide) _ (hS _ hm) rfl
 exact⟨h1.step hE2 fun q hq=>.inr (by rw[List.mem_singleton.1 hq];exact h.ab0),h2.far hE2 h0 (fun q hq=>by rw[List.mem_singleton.1 hq];exact h.ab0),hr.ext hE2 (by rw[List.mem_singleton];exact h.rab),hb.set_' 1 _ _ rfl,
  own_ext hO hE2 fun q hq=>by rw[List.mem_singleton];exact own_apart hO hb (by decide) q hq,h.rb0,h.ab0,h.rab,h.g0⟩
end
set_option maxHeartbeats 8000000 in
set_option maxRecDepth 100000 in
theorem gaffine_any (base g pb n bc:Nat)(bA:Option Addr)(bs:List Bf)(V:Value)(l:List St)(cnt size:Int)(w:World)(h:Bld w base g pb (n+10) bA bc bs V l cnt)(hsz : -1000000<=size/\size<=1000000) :
  Calls Tryz.prog 153 #[.pointer (some ⟨pb,0,none⟩),.int .i64 size] w (AffP base g n w):=by
 unfold AffP;obtain⟨mx,hmx⟩:∃m:Int,max size 1=m:=⟨_,rfl⟩;have hmx1:mx<=1000000:=by omega
 have HD:=hd h;have HL3:=hd h.l3;obtain⟨VA,vc,rfl,-,-⟩:=own_form h.row;clear h;go_enter Tryz.func153,Tryz.ntmps153
 go_upto_region 1 with fail
 have HE1:=hd ((Ext.refl [] w).alloc (.cells #[.int .i64 0,.slice none 0 0] 38));have HR1:=hd (Blk.new w 38 #[.int .i64 0,.slice none 0 0]);have HD1:=hd (HD.o.grow HE1.o);generalize World.alloc w _=w1 at *;have qp:=HD1.o.blk.cell;have qpl:=HD1.o.blk.lt;unfold bldA at qp;go_wp2_with fail
 refine(next_any base g (n+9) _ _ HD1.o.stm (by omega)).mono ?_
 rintro e w2 ⟨r,rfl,_,hE,hS⟩;have HE2:=hd (HE1.o.nil.trans hE);have HD2:=hd (HD1.o.draw hE hS);have HR2:=hd (HR1.o.ext hE (by rw[List.mem_singleton];have:=HD.o.stm.lt;omega));clear hE hS qp qpl HD1 HR1 HE1;go_upto_region 2 with fail
 have HA3:Hd (AfSt w base g pb (n+9) bA bc bs (.slice VA l.length vc) l cnt w.heap.size w2.heap.size r (.slice none 0 0) [] (w2.alloc (.cells #[.int .i64 r,.slice none 0 0] 38))):=hd (by
  have h1:Ext [] w2 (w2.alloc (.cells #[.int .i64 r,.slice none 0 0] 38)):=(Ext.refl _ _).alloc _;exact⟨HE2.o.trans h1.nil,HD2.o.grow h1,HR2.o.ext h1 (by simp),Blk.new _ _ _,own_none _ _ _ _,Nat.le_refl _,HE2.o.size,by have:=HR2.o.lt;omega,HD.o.stm.lt⟩)
 generalize World.alloc w2 _=w3 at *;generalize w2.heap.size=ab at *;generalize hrb:w.heap.size=rb at *;have HRB:=hd hrb;clear hrb HE2 HD2 HR2;have qp:=HA3.o.bld.blk.cell;have qpl:=HA3.o.bld.blk.lt;unfold bldA at qp;go_upto_if 21 with(go_at_call 13;refine(flip_any base g (n+8) _ _ HA3.o.bld.stm (by omega)).mono ?_;rintro e w4 ⟨fl,rfl,hE,hS⟩)
 have HA4:=hd (HA3.o.draw hE hS);clear hE hS HA3 qp qpl;go_cut [] (fun wx=>∃x:Int,Hd (AfSt w base g pb (n+8) bA bc bs (.slice VA l.length vc) l cnt rb ab x (.slice none 0 0) [] wx))
 case first=>
  cases fl
  ·go_wp2_with fail
   go_meet
   exact⟨_,HA4⟩
  ·have qa:=HA4.o.blk.cell;have qaf:=HA4.o.blk.frozen;have qal:=HA4.o.blk.lt;go_wp2_with fail
   go_meet
   exact⟨0,hd (HA4.o.base' HD.o 0)⟩
 case rest=>
  obtain⟨x0,HA5⟩:=hcut;have qp:=HA5.o.bld.blk.cell;have qpl:=HA5.o.bld.blk.lt;unfold bldA at qp;go_wp2_with fail
  clear qp qpl HA4;go_loopw [28] (fun i wr=>∃(k:Nat) (x:Int) (v:Value) (ts:List (ByteArray×Int)),i=.int .i64 k/\k<=l.length/\ts.length<=k/\Hd (AfSt w base g pb (n+2+2*(3-k)) bA bc bs (.slice VA l.length vc) l cnt rb ab x v ts wr)) (fun i _=>(l.length-intOf i).toNat)
  case atStart=>exact⟨0,x0,_,[],rfl,Nat.zero_le _,Nat.le_refl _,hd (HA5.o.less (by omega))⟩
  case round=>
   obtain⟨k,x,v,ts,rfl,hk,hts,HA⟩:=hrel;by_cases hlt:k<l.length
   ·have hlti:(k:Int)<(l.length:Int):=by omega
    have HLT:=hd hlt;go_upto_block 1 with fail
    go_cut [] (fun wx=>∃(x:Int) (v:Value) (ts:List (ByteArray×Int)),ts.length<=k+1/\Hd (AfSt w base g pb (n+2+2*(3-(k+1))) bA bc bs (.slice VA l.length vc) l cnt rb ab x v ts wx))
    case first=>
     obtain⟨va,vcc,s,hV,hva,hx,hc⟩:=HA.o.bld.at hlt;cases hV
     obtain⟨h,bdy⟩:=s;have HW:=hd (fun j v hv=>hc j v hv:∀(j:Nat) (v:Value),(stArr h bdy.length h.val.h h.val.ks.length).toList[j]? = some v->wr.cell? ⟨va,k*21+j,none⟩=some v);have HB6:=hd (Blk.new wr 43 (stArr h bdy.length h.val.h h.val.ks.length));have HA6:=hd (HA.o.grow ((Ext.refl [] wr).alloc (.cells (stArr h bdy.length h.val.h h.val.ks.length) 43)));obtain⟨a0,a1,a2,a3,a4,a5,a6,a7,-⟩:=stArr_get h bdy.length h.val.h h.val.ks.length;have HSZ:=hd (show(Tryz.prog.info? 43).map (·.size)=some (stArr h bdy.length h.val.h h.val.ks.length).size from infoSt);have HZS:=hd (show zSt.size=(stArr h bdy.length h.val.h h.val.ks.length).size from rfl);have HON:=hd (stArr_one h bdy.length h.val.h h.val.ks.length);clear hx hc;generalize stArr h bdy.length h.val.h h.val.ks.length=arr at *
     go_upto_region 7 with(first
      | refine wpList_load_wide rfl 43 _ rfl va (k*21) rfl arr HW.o _ Tryz.underlying43 rfl HSZ.o ?_
      | refine wpList_make_wide rfl rfl 43 _ _ rfl rfl zSt (zSt_run _) arr rfl rfl HSZ.o HZS.o HON.o ?_)
     have hfb:rb<=wr.heap.size:=by rw[<-HRB.o];exact HA.o.ext.size
     have hfa:=HA.o.blk.lt;have hfr:=HA.o.res.lt;generalize World.alloc wr _=w6 at *;generalize wr.heap.size=fb at *;clear HA HW HSZ HZS HON;have qp:=HA6.o.bld.blk.cell;have qpl:=HA6.o.bld.blk.lt;unfold bldA at qp;go_upto_if 36 with(go_at_call 13;refine(flip_any base g (n+2+2*(3-(k+1))+1) _ _ (HA6.o.bld.stm.less (by have:=HL3.o;omega)) (by omega)).mono ?_;rintro e w7 ⟨fl,rfl,hE,hS⟩)
     have HA7:=hd (HA6.o.draw hE hS);have HB7:=hd (HB6.o.ext hE (by have:=HA6.o.g0;rw[HRB.o] at this;rw[List.mem_singleton];omega));clear hE hS HA6 HB6 qp qpl;cases fl
     ·go_wp2_with fail
      go_meet
      exact⟨x,v,ts,by omega,hd (HA7.o.less (by have:=HL3.o;omega))⟩
     ·have qp:=HA7.o.bld.blk.cell;have qpl:=HA7.o.bld.blk.lt;unfold bldA at qp;have HN8:=hd (Blk.new w7 3 (Nums [1,1,1,2,-1]));have HA8:=hd (HA7.o.grow ((Ext.refl [] w7).alloc (.cells (Nums [1,1,1,2,-1]) 3)));have HB8:=hd (HB7.o.alloc (.cells (Nums [1,1,1,2,-1]) 3));have hg7:g<w7.heap.size:=HA7.o.bld.stm.lt;simp only[Nums,List.map_cons,List.map_nil] at HN8 HA8 HB8;go_wp2_with fail
      refine(pick_any base g (n+2+2*(3-(k+1))) w7.heap.size 5 3 [1,1,1,2,-1] _ HA8.o.bld.stm HN8.o (by have:=HL3.o;omega) (by decide)).mono ?_
      rintro e w9 ⟨r,rfl,hr,hE,hS⟩;have HA9:=hd (HA8.o.draw hE hS);have HB9:=hd (HB8.o.ext hE (by have:=HA7.o.g0;rw[HRB.o] at this;rw[List.mem_singleton];omega));clear hE hS HA8 HB8 HN8 HA7 HB7 qp qpl hr;obtain⟨i0,hi0,hz0,hz1,hz2⟩:=tmInfo;have qb:=HB9.o.cell;have qbl:=HB9.o.lt;have qa:=HA9.o.blk.cell;have qal:=HA9.o.blk.lt;have HS9:=hd (Blk.new w9 178 #[.string h.var,.int .i64 r]);have hrw:w.heap.size<=w9.heap.size:=HA9.o.ext.size;have hk9:ts.length+1<=4:=by have:=HL3.o;omega
      go_upto_region 10 with(
       refine wpList_append_lies _ rfl _ _ 36 rfl w.heap.size 178 i0 _ 2 24 Tryz.underlying36 hi0 hz0 hz1 hz2 rfl (by decide) v ts.length (ts.flatMap tmC) rfl ?c0 ⟨w9.heap.size,0,none⟩ 1 1 [.string h.var,.int .i64 r] rfl rfl ?c1 ?c2 (by omega) ?c3 ?c4 ?c5 _ rfl ?_
       case c0=>exact own_ext HA9.o.own ((Ext.refl [] w9).alloc _) (by simp)
       case c1=>intro j u hj;rw[Addr.add_mk,Nat.zero_add,HS9.o.cell,<-Array.getElem?_toList];exact hj
       case c2=>intro u hu;simp only[List.mem_cons,List.not_mem_nil,or_false] at hu;rcases hu with rfl|rfl<;>rfl
       case c3=>unfold maxLen;omega
       case c4=>omega
       case c5=>exact Nat.le_trans hrw ((Ext.refl [] w9).alloc _).size
       intro g8 c8 w10 ho8 hg8 hi8 ha8;have HE10:Hd (Ext v.ownBlock.toList w9 w10):=hd (((Ext.refl _ w9).alloc _).grown hg8 fun q hq=>.inl (Option.mem_toList.2 hq));have HA10:=hd (HA9.o.terms HD.o HE10.o (fun q hq=>Option.mem_toList.1 hq) (u:=.slice (some ⟨g8,0,none⟩) (ts.length+1) c8) (us:=ts ++ [(h.var,r)]) (by rw[List.length_append,List.flatMap_append];exact ho8));have HB10:=hd (HB9.o.ext HE10.o fun hm=>own_apart HA9.o.own HB9.o (by decide) _ (Option.mem_toList.1 hm) rfl);have HB11:=hd (HB10.o.ext (Ext.setAt (b:=ab) (i:=1) (u:=.slice (some ⟨g8,0,none⟩) (ts.length+1) c8) (.inl (by simp)) (Ext.refl [ab] w10)) (by rw[List.mem_singleton];omega));have hb10:Blk w10 ab 38 #[.int .i64 x,v]:=HA9.o.blk.ext HE10.o fun hm=>own_apart HA9.o.own HA9.o.blk (by decide) _ (Option.mem_toList.1 hm) rfl
       have qa:=hb10.cell;have qaf:=hb10.frozen;have qal:=hb10.lt;clear ho8 hg8 hi8 ha8 hb10)
      generalize World.setCell w10 _ _=w11 at *;clear qa qaf qal qb qbl;by_cases hr0:r<0
      ·have hrd:decide (r<0)=true:=decide_eq_true hr0;have qb:=HB11.o.cell;have qbl:=HB11.o.lt;have qa:=HA10.o.blk.cell;have qaf:=HA10.o.blk.frozen;have qal:=HA10.o.blk.lt;go_wp2_with fail
       go_meet
       exact⟨_,_,_,by rw[List.length_append];exact Nat.succ_le_succ hts,hd (HA10.o.base' HD.o _)⟩
      ·have hrd:decide (r<0)=false:=decide_eq_false hr0;go_wp2_with fail
       go_meet
       exact⟨_,_,_,by rw[List.length_append];exact Nat.succ_le_succ hts,HA10⟩
    case rest=>
     obtain⟨x2,v2,ts2,hts2,HA10⟩:=hcut;have hk3:k<4:=by have:=HLT.o;have:=HL3.o;omega
     have hkl:=HLT.o;go_wp2_with fail
     go_roundw
     case rel=>exact⟨k+1,x2,v2,ts2,by go_num,by have:=HLT.o;omega,hts2,HA10⟩
     case measure=>simp[intOf];have:=HLT.o;omega
   ·have hkl:k=l.length:=by omega
    subst hkl;have hts4:ts.length<=4:=by have:=HL3.o;omega
    have qa:=HA.o.blk.cell;have qal:=HA.o.blk.lt;obtain⟨TA,tc,rfl,-,hnz⟩:=own_form HA.o.own
    have HSO:=hd (sortT_any ts.length tc TA ts wr rfl hts4 (by
     by_cases h0:ts=[]
     ·exact .inl h0
     ·obtain⟨q,rfl,-,-⟩:=hnz (List.length_pos_iff.2 h0);exact .inr ⟨q,rfl,TmR.own HA.o.own⟩))
    unfold vcmp SortP at HSO;clear hnz;go_wp2_with fail
    refine HSO.o.mono ?_
    rintro e w5 ⟨rfl,ts',htl,hs⟩
    have HX:Hd (∃S:List Nat,Ext S wr w5/\(∀q∈S,(Value.slice TA ts.length tc).ownBlock=some q)/\SeqA (fun b=>w.heap.size<=b/\b≠rb) 4 w5 TA 2 tmC ts'):=hd (by
     rcases hs with⟨h1,h2⟩|⟨q,rfl,h2,h3⟩
     ·subst h1;exact⟨[],h2,by simp,SeqA.nil ..⟩
     ·exact⟨[q],h3,fun y hy=>by rw[List.mem_singleton.1 hy];rfl,h2.seq (by omega) ⟨own_base HA.o.own q rfl,own_apart HA.o.own HA.o.res (by decide) q rfl⟩⟩)
    have HTL:=hd htl;clear hs htl HSO qa qal;obtain⟨S5,hE5,hS5,hQ5⟩:=HX.o;have HR5:=hd (HA.o.res.ext hE5 fun hm=>own_apart HA.o.own HA.o.res (by decide) _ (hS5 _ hm) rfl);have HB5:=hd (HA.o.blk.ext hE5 fun hm=>own_apart HA.o.own HA.o.blk (by decide) _ (hS5 _ hm) rfl);have HF5:=hd (HA.o.far HD.o hE5 fun q hq=>own_base HA.o.own q (hS5 q hq));have HQ5:=hd hQ5;clear hE5 hS5 hQ5 HX;have qa:=HB5.o.cell;have qal:=HB5.o.lt;have qr:=HR5.o.cell;have qrf:=HR5.o.frozen;have qrl:=HR5.o.lt;have HE6:=hd ((Ext.setAt (b:=rb) (i:=0) (u:=.int .i64 x) (.inl (by simp)) (Ext.refl [rb] w5)).trans (Ext.setAt (b:=rb) (i:=1) (u:=.slice TA ts.length tc) (.inl (by simp)) (Ext.refl [rb] _)));have HR6:=hd ((HR5.o.set_' 0 (.int .i64 x) #[.int .i64 x,.slice none 0 0] rfl).set_' 1 (.slice TA ts.length tc) #[.int .i64 x,.slice TA ts.length tc] rfl);go_wp2_with fail
    have HQ6:=hd (HQ5.o.ext HE6.o fun y hy=>by rw[List.mem_singleton.1 hy];exact fun hh=>hh.2 rfl);have HX6:=hd (HF5.o.1.step HE6.o fun y hy=>.inr (by rw[List.mem_singleton.1 hy];exact HA.o.rb0));have HS6:=hd (HF5.o.2.stm.ext HE6.o (by have:=HA.o.rb0;have:=HA.o.g0;rw[List.mem_singleton];omega) (fun y hy=>by rw[List.mem_singleton.1 hy];have:=HA.o.rb0;have:=HD.o.blk.lt;have:=HD.o.bpb;omega));generalize World.setCell (World.setCell w5 _ _) _ _=w6 at *;refine bodyPost_ret (results_cell_row rfl _ _ rb 38 _ (0,0) _ rfl HR6.o Tryz.underlying38 rfl (by kernel_rfl)) rfl ⟨⟨x,TA,tc,ts'⟩,by rw[<-HTL.o];rfl,HQ6.o.mono (fun b _ hb=>hb.1) (Nat.le_refl _),HX6.o,HS6.o.less (by omega)⟩
end
set_option maxHeartbeats 8000000 in
set_option maxRecDepth 100000 in
theorem gmost_any (base g pb n bc:Nat)(bA:Option Addr)(bs:List Bf)(V:Value)(l:List St)(cnt:Int)(a:Af)(w:World)(h:Bld w base g pb n bA bc bs V l cnt)(ha:AfIn w a)(ha4:a.ts.length<=4) :
  Calls Tryz.prog 225 #[.pointer (some ⟨pb,0,none⟩),afV a] w fun e w'=>∃r:Int,e=.returned (.int .i64 r)/\Ext [] w w':=by
 obtain⟨ab,AA,ac,ts⟩:=a;unfold afV AfIn at *;dsimp only at *;have HD:=hd h;have HL3:=hd h.l3;have HA:=hd ha;have HA4:=hd ha4;obtain⟨VA,vc,rfl,-,-⟩:=own_form h.row;clear h ha ha4;go_enter Tryz.func225,Tryz.ntmps225
 go_wp2_with fail
 have HE1:=hd ((Ext.refl [] w).alloc (.cells #[.int .i64 ab,.slice AA ts.length ac] 38));generalize World.alloc w _=w1 at *;go_loopw [5,15] (fun nn i wr=>∃(k:Nat) (m:Int),nn=.int .i64 m/\i=.int .i64 k/\k<=ts.length/\Hd (Ext [] w wr)) (fun _ i _=>(ts.length-intOf i).toNat)
 case atStart=>exact⟨0,ab,rfl,rfl,Nat.zero_le _,HE1⟩
 case round=>
  obtain⟨k,m,rfl,rfl,hk,HE⟩:=hrel;by_cases hlt:k<ts.length
  ·have hlti:(k:Int)<(ts.length:Int):=by omega
   have HLT:=hd hlt;obtain⟨tb,⟨s,c⟩,rfl,hx,hc⟩:=HA.o.at hlt;have q1:=HE.o.held (hc 0 _ rfl) (by simp);have q2:=HE.o.held (hc 1 _ rfl) (by simp);have qtl:=World.block_lt_of_cell? wr _ q1;simp only[Nat.add_zero] at q1 q2 qtl;clear hx hc;go_upto_block 1 with fail
   go_cut [5] (fun nn wx=>∃m:Int,nn=.int .i64 m/\Hd (Ext [] w wx))
   case first=>
    go_upto_region 5 with fail
    have HE5:=hd (HE.o.alloc (.cells #[.string s,.int .i64 c] 178));have HT5:=hd (Blk.new wr 178 #[.string s,.int .i64 c]);generalize World.alloc wr _=w5 at *;generalize wr.heap.size=tk at *;clear q1 q2 qtl HE;have HD5:=hd (HD.o.grow HE5.o);have qp:=HD5.o.blk.cell;have qpl:=HD5.o.blk.lt;unfold bldA at qp;go_wp2_with fail
    clear qp qpl;go_loopw [5,24] (fun nn i wq=>∃(j:Nat) (m:Int),nn=.int .i64 m/\i=.int .i64 j/\j<=l.length/\Hd (Ext [] w5 wq)) (fun _ i _=>(l.length-intOf i).toNat)
    case atStart=>exact⟨0,m,rfl,rfl,Nat.zero_le _,hd (Ext.refl _ _)⟩
    case round=>
     rename World=>wq
     obtain⟨j,m3,rfl,rfl,hj,HEq⟩:=hrel;by_cases hjl:j<l.length
     ·have hjli:(j:Int)<(l.length:Int):=by omega
      have HJL:=hd hjl;go_upto_block 3 with fail
      go_cut [5] (fun nn wx=>∃m:Int,nn=.int .i64 m/\Hd (Ext [] w5 wx))
      case first=>
       obtain⟨va,vcc,st,hV,hva,hx,hc⟩:=(HD5.o.grow HEq.o).at hjl;cases hV
       obtain⟨h,bdy⟩:=st;have HW:=hd (fun j v hv=>hc j v hv:∀(i:Nat) (v:Value),(stArr h bdy.length h.val.h h.val.ks.length).toList[i]? = some v->wq.cell? ⟨va,j*21+i,none⟩=some v);have HB6:=hd (Blk.new wq 43 (stArr h bdy.length h.val.h h.val.ks.length));have HE6:=hd (HEq.o.alloc (.cells (stArr h bdy.length h.val.h h.val.ks.length) 43));obtain⟨a0,a1,a2,a3,a4,a5,a6,a7,-⟩:=stArr_get h bdy.length h.val.h h.val.ks.length;have HSZ:=hd (show(Tryz.prog.info? 43).map (·.size)=some (stArr h bdy.length h.val.h h.val.ks.length).size from infoSt);have HZS:=hd (show zSt.size=(stArr h bdy.length h.val.h h.val.ks.length).size from rfl);have HON:=hd (stArr_one h bdy.length h.val.h h.val.ks.length);clear hx hc;generalize stArr h bdy.length h.val.h h.val.ks.length=arr at *
       go_upto_region 8 with(first
        | refine wpList_load_wide rfl 43 _ rfl va (j*21) rfl arr HW.o _ Tryz.underlying43 rfl HSZ.o ?_
        | refine wpList_make_wide rfl rfl 43 _ _ rfl rfl zSt (zSt_run _) arr rfl rfl HSZ.o HZS.o HON.o ?_)
       generalize World.alloc wq _=w6 at *;generalize wq.heap.size=fb at *;have qb:=HB6.o.cell;have qbl:=HB6.o.lt;have qt:=(HT5.o.ext HE6.o (by simp)).cell;have qtl:=(HT5.o.ext HE6.o (by simp)).lt;go_wp2_with fail
       all_goals
        go_meet
        exact⟨_,rfl,HE6⟩
      case rest=>
       obtain⟨m4,rfl,HE7⟩:=hcut;have hk3:j<4:=by have:=HJL.o;have:=HL3.o;omega
       have hkl:=HJL.o;go_wp2_with fail
       go_roundw
       case rel=>exact⟨j+1,m4,rfl,by go_num,by omega,HE7⟩
       case measure=>simp[intOf];omega
     ·go_wp2_with fail
      go_meet
      exact⟨m3,rfl,hd (HE5.o.trans HEq.o)⟩
   case rest=>
    obtain⟨m2,rfl,HE2⟩:=hcut;have hk3:k<5:=by have:=HLT.o;have:=HA4.o;omega
    have hkl:=HLT.o;go_wp2_with fail
    go_roundw
    case rel=>exact⟨k+1,m2,rfl,by go_num,by omega,HE2⟩
    case measure=>simp[intOf];omega
  ·go_wp2_with fail
   go_ret
   exact⟨m,rfl,HE.o⟩
set_option maxHeartbeats 8000000 in
set_option maxRecDepth 100000 in
theorem ginside_any (base g pb n bc buf:Nat)(bA:Option Addr)(bs:List Bf)(V:Value)(l:List St)(cnt:Int)(w:World)(h:Bld w base g pb (n+70) bA bc bs V l cnt)(hb:buf<bs.length) :
  Calls Tryz.prog 196 #[.pointer (some ⟨pb,0,none⟩),.int .i64 buf] w (AffP base g n w):=by
 have HD:=hd h;have hbi:(buf:Int)<(bs.length:Int):=by omega
 have HB9:=hd h.b9;obtain⟨q,bf,rfl,hq,hx,hc⟩:=h.bufAt hb;have HBZ:=hd (h.bsz bf (List.mem_of_getElem? hx));have HC:=hd (hc 1 _ rfl);clear h hx hc;unfold AffP;go_enter Tryz.func196,Tryz.ntmps196
 go_upto_region 1 with fail
 have HE1:=hd ((Ext.refl [] w).alloc (.cells #[.int .i64 0,.slice none 0 0] 38));have HR1:=hd (Blk.new w 38 #[.int .i64 0,.slice none 0 0]);have HD1:=hd (HD.o.grow HE1.o);generalize World.alloc w _=w1 at *;generalize hrb:w.heap.size=rb at *;have HRB:=hd hrb;clear hrb;have qp:=HD1.o.blk.cell;have qpl:=HD1.o.blk.lt;have qc:=Ext.held HE1.o HC.o (by simp);have qcl:=World.block_lt_of_cell? w1 _ qc;simp only at qcl;unfold bldA at qp;go_wp2_with fail
 generalize hsz:bf.size=sz at *;have HSZ:Hd (1<=sz/\sz<=1000):=HBZ;clear qp qpl qc qcl hsz;go_loopw [16] (fun i wr=>∃(k:Nat),i=.int .i64 k/\k<=6/\Hd (Ext [g] w wr)/\Hd (Bld wr base g pb (n+1+10*(6-k)) (some ⟨q,0,none⟩) bc bs V l cnt)/\Hd (Blk wr rb 38 #[.int .i64 0,.slice none 0 0])) (fun i _=>(6-intOf i).toNat)
 case atStart=>exact⟨0,rfl,by omega,hd HE1.o.nil,hd (HD1.o.less (by omega)),HR1⟩
 case round=>
  obtain⟨k,rfl,hk,HE,HDk,HRk⟩:=hrel;have hg0:=HD.o.stm.lt;rw[HRB.o] at hg0;by_cases hlt:k<6
  ·have hlti:(k:Int)<6:=by omega
   go_wp2_with fail
   refine(gaffine_any base g pb (n+1+10*(6-(k+1))) bc _ bs V l cnt sz wr (HDk.o.less (by omega)) (by have:=HSZ.o;omega)).mono ?_
   rintro e w2 ⟨a,rfl,ha,hE,hS⟩;have HA2:=hd ha;have HE2:=hd (HE.o.trans hE);have HD2:=hd (HDk.o.draw hE hS);have HR2:=hd (HRk.o.ext hE (by rw[List.mem_singleton];omega));have hsz2:rb<=wr.heap.size:=by rw[<-HRB.o];exact HE.o.size
   have hrb2:=HR2.o.lt;have hrbw:=HRk.o.lt;obtain⟨ax,AA,ac,ts⟩:=a;unfold afV;dsimp only;have HA3:=hd (SeqA.ext HA2.o ((Ext.refl [] w2).alloc (.cells #[.int .i64 ax,.slice AA ts.length ac] 38)) (by simp));have HD3:=hd (HD2.o.grow ((Ext.refl [] w2).alloc (.cells #[.int .i64 ax,.slice AA ts.length ac] 38)));have HE3:=hd (HE2.o.alloc (.cells #[.int .i64 ax,.slice AA ts.length ac] 38));have HR3:=hd (HR2.o.alloc (.cells #[.int .i64 ax,.slice AA ts.length ac] 38));have HB3:=hd (Blk.new w2 38 #[.int .i64 ax,.slice AA ts.length ac]);go_upto_region 5 with fail
   generalize World.alloc w2 _=w3 at *;generalize w2.heap.size=ab at *;clear hE hS ha HA2 HE2 HD2 HR2 HDk HRk;have qb:=HB3.o.cell;have qbl:=HB3.o.lt;go_wp2_with fail
   refine(gmost_any base g pb _ bc _ bs V l cnt ⟨ax,AA,ac,ts⟩ w3 HD3.o (SeqA.inn HA3.o (by omega)) HA3.o.1).mono ?_
   rintro e w4 ⟨r,rfl,hE4⟩;have HE4:=hd (HE3.o.trans hE4.nil);have HD4:=hd (HD3.o.grow hE4);have HR4:=hd (HR3.o.ext hE4 (by simp));have HB4:=hd (HB3.o.ext hE4 (by simp));have HA4:=hd (SeqA.ext HA3.o hE4 (by simp));clear hE4 qb qbl HE3 HD3 HR3 HB3 HA3;by_cases hr:r<sz
   ·have hrd:decide (r<sz)=true:=decide_eq_true hr;have qb:=HB4.o.cell;have qbl:=HB4.o.lt;have qr:=HR4.o.cell;have qrf:=HR4.o.frozen;have qrl:=HR4.o.lt;have HE6:=hd ((Ext.setAt (b:=rb) (i:=0) (u:=.int .i64 ax) (.inl (by simp)) (Ext.refl [rb] w4)).trans (Ext.setAt (b:=rb) (i:=1) (u:=.slice AA ts.length ac) (.inl (by simp)) (Ext.refl [rb] _)));have HR6:=hd ((HR4.o.set_' 0 (.int .i64 ax) #[.int .i64 ax,.slice none 0 0] rfl).set_' 1 (.slice AA ts.length ac) #[.int .i64 ax,.slice AA ts.length ac] rfl);go_wp2_with fail
    have HQ6:=hd (SeqA.ext (SeqA.mono (Q:=fun b=>wr.heap.size<=b/\b≠rb) HA4.o (fun b _ hb=>⟨hb,by omega⟩) (Nat.le_refl _)) HE6.o (fun y hy=>by rw[List.mem_singleton.1 hy];exact fun hh=>hh.2 rfl));have HX6:=hd (HE4.o.step HE6.o fun y hy=>.inr (by rw[List.mem_singleton.1 hy];exact Nat.le_of_eq HRB.o));have HS6:=hd (HD4.o.stm.ext HE6.o (by rw[List.mem_singleton];omega) (fun y hy=>by rw[List.mem_singleton.1 hy];have:=HD.o.blk.lt;have:=HD.o.bpb;have:=HRB.o;omega));generalize World.setCell (World.setCell w4 _ _) _ _=w6 at *;exact bodyPost_ret (results_cell_row rfl _ _ rb 38 _ (0,0) _ rfl HR6.o Tryz.underlying38 rfl (by kernel_rfl)) rfl ⟨⟨ax,AA,ac,ts⟩,rfl,SeqA.mono HQ6.o (fun b _ hb=>by have:=hb.1;have:=HRB.o;omega) (Nat.le_refl _),HX6.o,HS6.o.less (by omega)⟩
   ·have hrd:decide (r<sz)=false:=decide_eq_false hr;go_wp2_with fail
    go_roundw
    case rel=>exact⟨k+1,by go_num,by omega,HE4,HD4,HR4⟩
    case measure=>simp[intOf];omega
  ·have hk6:k=6:=by omega
   subst hk6;have qp:=HDk.o.blk.cell;have qpl:=HDk.o.blk.lt;unfold bldA at qp;go_wp2_with fail
   refine(next_any base g n sz _ (HDk.o.stm.less (by omega)) (by have:=HSZ.o;omega)).mono ?_
   rintro e w2 ⟨r,rfl,_,hE,hS⟩;have HE2:=hd (HE.o.trans hE);have HR2:=hd (HRk.o.ext hE (by rw[List.mem_singleton];omega));have HS2:=hd hS;clear hE hS qp qpl;have qr:=HR2.o.cell;have qrf:=HR2.o.frozen;have qrl:=HR2.o.lt;have HE6:=hd ((Ext.setAt (b:=rb) (i:=0) (u:=.int .i64 r) (.inl (by simp)) (Ext.refl [rb] w2)).trans (Ext.setAt (b:=rb) (i:=1) (u:=.slice none 0 0) (.inl (by simp)) (Ext.refl [rb] _)));have HR6:=hd ((HR2.o.set_' 0 (.int .i64 r) #[.int .i64 r,.slice none 0 0] rfl).set_' 1 (.slice none 0 0) #[.int .i64 r,.slice none 0 0] rfl);go_wp2_with fail
   have HX6:=hd (HE2.o.step HE6.o fun y hy=>.inr (by rw[List.mem_singleton.1 hy];exact Nat.le_of_eq HRB.o));have HS6:=hd (HS2.o.ext HE6.o (by rw[List.mem_singleton];omega) (fun y hy=>by rw[List.mem_singleton.1 hy];have:=HD.o.blk.lt;have:=HD.o.bpb;have:=HRB.o;omega));generalize World.setCell (World.setCell w2 _ _) _ _=w6 at *;exact bodyPost_ret (results_cell_row rfl _ _ rb 38 _ (0,0) _ rfl HR6.o Tryz.underlying38 rfl (by kernel_rfl)) rfl ⟨⟨r,none,0,[]⟩,rfl,afA_nil ..,HX6.o,HS6.o⟩
section
def JC (c base g n:Nat)(w0:World)(k:Nat)(w:World):Prop:=Ext [g] w0 w/\Stm w base g (n+c*k)
section
variable {c base g n:Nat} {w0:World}
theorem JC.less (k:Nat)(w:World)(h:JC c base g n w0 (k+1) w):JC c base g n w0 k w:=⟨h.1,h.2.less (by rw[Nat.mul_succ];omega)⟩
theorem JC.grow {k m:Nat}{w w':World}(h:JC c base g n w0 (k+1) w)(hE:Ext [] w w'):JC c base g n w0 k w':=⟨h.1.trans hE.nil,(h.2.ext hE (by simp) (by simp)).less (by rw[Nat.mul_succ];omega)⟩
theorem rgC {id:Nat}{Q:Exit->Act->World->Prop}{a:Act}{w:World}{l:List Oper}(p c base g n:Nat)(ks:List (Nat×Spec))(hs:Stays (kinds ks) (Ext [g]))(h0:Stm w base g (n+c*p))
  (h:relAt Tryz.prog l.toArray (JC c base g n w) (Ext [g]) (kinds ks) (fun a w=>wpList Tryz.prog l.toArray Q (l.drop p) a w) 0 (l.take p) a (fun _ _=>True)) (hm:(Tryz.prog).follows .mixedOrders=true:=by kernel_rfl) (hB:relB l.toArray p=true:=by kernel_rfl):(Code.region id l.toArray true).wp Tryz.prog Q a w:=
 wp_region_rel p (JC c base g n w) (Ext [g]) (kinds ks) hm hB JC.less hs ⟨(Ext.refl _ _).drew,h0⟩ h
end
section
variable {P:Program} {ops:Array Oper} {S:Nat->Option Spec} {Q:Act->World->Prop} {k:Nat} {o:Oper} {rest:List Oper} {a:Act} {F:Nat->World->Prop} {c base g n:Nat} {w0:World}
theorem rel_callC (s:Spec)(hS:S k=some s)(hw:Region.wanted o (yielded ops a.tmps)=true)
  (hh:∃(f:FuncId) (args:Array Value),(∀w,(execOp a.eval o).run P w=.ok (.enter f args) w)/\
   ∀w m,Ext [g] w0 w->Stm w base g (m+c)->n<=m->(∀e∈o.after,Region.binds .any e=true->F e.on w)->Calls P f args w fun e w'=>∃x,e=.returned (s.f x)/\s.V x w'/\Ext [g] w w'/\Stm w' base g m)
  (h:∀x:s.α,relAt P ops (JC c base g n w0) (Ext [g]) S Q (k+1) rest (a.put o.dst (s.f x)) (upd F k (s.V x))):relAt P ops (JC c base g n w0) (Ext [g]) S Q k (o :: rest) a F:=by
 obtain⟨f,args,hr,hu⟩:=hh;refine relAt_call s hS hw ⟨f,args,hr,fun w m hJ hF=>?_⟩ h
 refine(hu w (n+c*m) hJ.1 (hJ.2.less (by rw[Nat.mul_succ];omega)) (by omega) hF).mono ?_
 rintro e w' ⟨x,he,hV,hE,hS'⟩;exact⟨x,he,hV,⟨hJ.1.trans hE,hS'⟩,hE⟩
theorem rel_newC (s:Spec)(hS:S k=some s)(hw:Region.wanted o (yielded ops a.tmps)=true)
  (hr:∀w,Ext [g] w0 w->(∀e∈o.after,Region.binds .any e=true->F e.on w)->∃x ob,(execOp a.eval o).run P w=.ok (.value (s.f x)) (w.alloc ob)/\s.V x (w.alloc ob))
  (h:∀x:s.α,relAt P ops (JC c base g n w0) (Ext [g]) S Q (k+1) rest (a.put o.dst (s.f x)) (upd F k (s.V x))):relAt P ops (JC c base g n w0) (Ext [g]) S Q k (o :: rest) a F:=by
 refine relAt_value s hS hw (fun w m hJ hF=>?_) h
 obtain⟨x,ob,h1,h2⟩:=hr w hJ.1 hF;have hE:Ext [] w (w.alloc ob):=(Ext.refl _ _).alloc _;exact⟨x,_,h1,h2,hJ.grow (m:=0) hE,hE.nil⟩
end
theorem after_get {o:Oper}{F:Nat->World->Prop}{w:World}(hf:∀e∈o.after,Region.binds .any e=true->F e.on w)(j:Nat)(hj:o.after.any (fun e=>Region.binds .any e&&e.on==j)=true):F j w:=by
 obtain⟨e,he,hb⟩:=Array.any_eq_true'.1 hj;simp only[Bool.and_eq_true,beq_iff_eq] at hb;rw[<-hb.2];exact hf e he hb.1
def afZ0:Af:=⟨0,none,0,[]⟩
def exZ0:Ex:=.mk ⟨0,0,0,0,0,0,0,afZ0,none,0⟩ []
def sAf (H:Nat):Spec:=⟨Af,afZ0,afV,fun a w=>AfA (fun b=>H<=b) 4 w a⟩
def sEx (H N:Nat):Spec:=⟨Ex,exZ0,exV,fun x w=>ExA (fun b=>H<=b) 10 w x/\parts x<=N⟩
def sEx1 (H N:Nat):Spec:=⟨Nat×Ex,(0,exZ0),fun u=>.slice (some ⟨u.1,0,none⟩) 1 1,fun u w=>H<=u.1/\Blk w u.1 41 (exArr u.2)/\ExA (fun b=>H<=b) 10 w u.2/\parts u.2<=N⟩
section
variable {H N g:Nat} (hg:g<H)
include hg
theorem sAf.stays:∀y w w',Ext [g] w w'->(sAf H).V y w->(sAf H).V y w':=fun y w w' hE h=>SeqA.ext h hE fun x hx=>by rw[List.mem_singleton.1 hx];omega
theorem sEx.stays:∀y w w',Ext [g] w w'->(sEx H N).V y w->(sEx H N).V y w':=fun y w w' hE h=>⟨ExA.ext hE (fun x hx=>by rw[List.mem_singleton.1 hx];omega) h.1,h.2⟩
theorem sEx1.stays:∀y w w',Ext [g] w w'->(sEx1 H N).V y w->(sEx1 H N).V y w':=fun y w w' hE h=>⟨h.1,h.2.1.ext hE (by rw[List.mem_singleton];have:=h.1;omega),ExA.ext hE (fun x hx=>by rw[List.mem_singleton.1 hx];omega) h.2.2.1,h.2.2.2⟩
end
def exLd (buf:Int)(a:Af):EH:=⟨3,0,0,0,0,0,buf,a,none,0⟩
def exNm (k:Int):EH:=⟨1,0,0,0,k,0,0,afZ0,none,0⟩
def exVr (a:Af):EH:=⟨2,0,0,0,0,0,0,a,none,0⟩
def exPk (buf:Int)(a:Af)(lo m:Int)(kb:Nat):EH:=⟨4,0,lo,0,1,m,buf,a,some ⟨kb,0,none⟩,1⟩
def exOp (op lo hi k:Int)(A:Option Addr)(c:Nat):EH:=⟨5,op,lo,hi,k,0,0,afZ0,A,c⟩
theorem exLd_built (buf:Int)(a:Af):Tryz.prog.built 41 [(0,.int .i64 3),(6,.int .i64 buf),(7,.agg #[.int .i64 a.base,.slice a.A a.ts.length a.cap])]=some (exHA (exLd buf a) 0):=by kernel_rfl
theorem exNm_built (k:Int):Tryz.prog.built 41 [(0,.int .i64 1),(4,.int .i64 k)]=some (exHA (exNm k) 0):=by kernel_rfl
theorem exVr_built (a:Af):Tryz.prog.built 41 [(0,.int .i64 2),(7,.agg #[.int .i64 a.base,.slice a.A a.ts.length a.cap])]=some (exHA (exVr a) 0):=by kernel_rfl
theorem exPk_built (buf:Int)(a:Af)(lo m:Int)(kb:Nat):Tryz.prog.built 41 [(0,.int .i64 4),(6,.int .i64 buf),(7,.agg #[.int .i64 a.base,.slice a.A a.ts.length a.cap]),(2,.int .i64 lo),(4,.int .i64 1),(5,.int .i64 m),(8,.slice (some ⟨kb,0,none⟩) 1 1)]=some (exHA (exPk buf a lo m kb) 1):=by kernel_rfl
theorem exOp_built (op:Int):Tryz.prog.built 41 [(0,.int .i64 5),(1,.int .i64 op)]=some (exHA (exOp op 0 0 0 none 0) 0):=by kernel_rfl
theorem exHA_one (h:EH)(n:Nat):(exHA h n).all (·.oneCell')=true:=by
 simp[exHA]
 repeat(first|exact rfl|refine⟨rfl,?_⟩)
theorem exHA_size (h:EH)(n:Nat):zEx.size=(exHA h n).size:=rfl
theorem exHA_info (h:EH)(n:Nat):(Tryz.prog.info? 41).map (·.size)=some (exHA h n).size:=infoEx
def ExP (base g n N:Nat)(w:World)(e:Ending)(w':World):Prop:=∃x:Ex,e=.returned (exV x)/\ExA (fun b=>w.heap.size<=b) 10 w' x/\parts x<=N/\Ext [g] w w'/\Stm w' base g n
end
end Go.Proofs.YtfppibmloloakaaGreatDoor
