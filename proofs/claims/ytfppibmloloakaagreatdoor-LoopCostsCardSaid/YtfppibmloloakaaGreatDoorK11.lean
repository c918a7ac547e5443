import Derived.Test.YtfppibmloloakaaGreatDoorK10
namespace Go.Proofs.YtfppibmloloakaaGreatDoor
open Go.RowKit Go.Proofs.Tryz
set_option linter.all false
set_option maxHeartbeats 64000000
def goL (G:List Az->Az->Bool):List Az->List Az->List Az×Bool
 | d,[]=>(d,true)
 | d,i :: r=>if G d i then goL G (d ++ [i]) r else(d ++ [i],false)
theorem Hu {G:List Az->Az->Bool}{d:List Az}{i:Az}(h:G d i=true)(r:List Az):goL G d (i :: r)=goL G (d ++ [i]) r:=by simp[goL,h]
theorem Pb {G:List Az->Az->Bool}{d:List Az}{i:Az}(h:G d i=false)(r:List Az):goL G d (i :: r)=(d ++ [i],false):=by simp[goL,h]
theorem Oi {G:List Az->Az->Bool}{b:List Az}:∀{a d:List Az},(goL G d a).2=false->goL G d (a ++ b)=goL G d a
 | [],d,h=>by simp[goL] at h
 | i :: a,d,h=>by
  cases hg:G d i
  ·rw[List.cons_append,Pb hg,Pb hg]
  ·rw[Hu hg] at h;rw[List.cons_append,Hu hg,Hu hg];exact Oi h
theorem Ly {G:List Az->Az->Bool}{b:List Az}:∀{a d:List Az},(goL G d a).2=true->goL G d (a ++ b)=goL G (goL G d a).1 b
 | [],d,h=>rfl
 | i :: a,d,h=>by
  cases hg:G d i
  ·rw[Pb hg] at h;cases h
  ·rw[Hu hg] at h;rw[List.cons_append,Hu hg,Hu hg];exact Ly h
theorem Qq (G:List Az->Az->Bool)(d:List Az)(i:Az):goL G d [i]=(d ++ [i],G d i):=by
 simp only[goL];by_cases h:G d i=true
 ·rw[ijp h,h]
 ·rw[ijn h];simp at h;rw[h]
theorem Uu {α:Type}(f:Nat->List α){j n:Nat}(h:j<=n):∃r,Ef n f=Ef j f ++ r:=by
 induction n with
 | zero=>exact⟨[],by
             have:j=0:=by omega
             subst this;simp⟩
 | succ n ih=>
  rcases Nat.lt_or_ge n j with h1|h1
  ·have:j=n+1:=by omega
   subst this;exact⟨[],by simp⟩
  ·obtain⟨r,hr⟩:=ih h1;exact⟨r ++ f n,by rw[Ei,hr,jP]⟩
theorem Aiq {G:List Az->Az->Bool}{d:List Az}{f:Nat->List Az}{j n:Nat}(h:(goL G d (Ef j f)).2=false)(hj:j<=n):goL G d (Ef n f)=goL G d (Ef j f):=by
 obtain⟨r,hr⟩:=Uu f hj;rw[hr,Oi h]
theorem Adt (env:Env)(h:SH)(no:Nat)(s:St){j n:Nat}(hj:j<=n):∃r,Fz env h no s n=Fz env h no s j ++ r:=by
 induction n with
 | zero=>exact⟨[],by
             have:j=0:=by omega
             subst this;simp⟩
 | succ n ih=>
  rcases Nat.lt_or_ge n j with h1|h1
  ·have:j=n+1:=by omega
   subst this;exact⟨[],by simp⟩
  ·obtain⟨r,hr⟩:=ih h1;exact⟨r ++ [⟨no,s.h,Bh env h n⟩],by rw[Jw,hr,jP]⟩
theorem Air {G:List Az->Az->Bool}{d:List Az}{env:Env}{h:SH}{no:Nat}{bs:List St}{i j:Nat}{s:St}(hs:bs[i]? = some s)(hj:j<=Ar h)(hg:(goL G d (Ct env h no (bs.take i) ++ Fz env h (no+i) s j)).2=false):goL G d (Ct env h no bs)=goL G d (Ct env h no (bs.take i) ++ Fz env h (no+i) s j):=by
 obtain⟨r,hr⟩:=Adt env h (no+i) s hj;have h1:=Lo env h no (bs.take (i+1)) (bs.drop (i+1));rw[List.take_append_drop,Mp hs,hr] at h1;rw[h1,<-jP,jP (_ ++ _),Oi hg]
theorem Ns {bs:List St}{nb:Nat}{vars:List ByteArray}(h3:∀s∈bs,s.h.k=3)(hF:∀s∈bs,Fd nb vars s):Ab bs=bs.length:=by
 induction bs with
 | nil=>rfl
 | cons s bs ih=>
  have h1:=h3 s (jO ..);have h2:=hF s (jO ..)
  have h4:Be s=1:=by
   cases h2 with
   | loop _ _ _ h=>simp only[St.h] at h1;omega
   | when _ _ _ h=>simp only[St.h] at h1;omega
   | store _ _ h=>simp[Be,h,Ab]
  simp only[Ab,List.length_cons,h4,ih (fun s hs=>h3 s (jI _ hs)) fun s hs=>hF s (jI _ hs)];omega
def Ni (G:List Az->Az->Bool)(d:List Az):Prop:=∀p i,d=p ++ [i]->G p i=true
theorem Ni.go {G:List Az->Az->Bool}:∀{a d:List Az},Ni G d->(goL G d a).2=true->Ni G (goL G d a).1
 | [],d,h,_=>h
 | i :: a,d,h,h2=>by
  cases hg:G d i
  ·rw[Pb hg] at h2;cases h2
  ·rw[Hu hg] at h2⊢;refine Ni.go (fun p j hp=>?_) h2
   obtain⟨e1,e2⟩:=List.append_inj' hp rfl;subst e1;cases e2
   exact hg
structure DoC (f:FuncId)(caps:Array Value)(C:List Nat)(n nb eb:Nat)(L:List Nat)(G:List Az->Az->Bool)(I:List Az->World->Prop):Prop where
 enters:∀args w,(callFunc f args).run prog w=.ok (.enter f args) w
 low:∀x∈C,n<=x/\x≠eb
 keep:∀d w w',Ext [eb] w w'->I d w->I d w'
 call:∀(d:List Az) (i:Az) (g:Nat) (names:List ByteArray) (vs:List Int) (w:World),I d w->Ni G d->Lx w g names nb i.s i.no->L[i.no]? = some g->Bn w eb vs->vs.length=names.length->i.env=names.zip vs->
  Calls prog f (#[ptV g,.slice (some eb) vs.length 8] ++ caps) w fun e w'=>e=.returned (.bool (G d i))/\Ext C w w'/\I (d ++ [i]) w'
def Ak6 (C:List Nat)(eb:Nat)(vs:List Int)(G:List Az->Az->Bool)(I:List Az->World->Prop)(d l:List Az)(w:World)(e:Ending)(w':World):Prop:=
 e=.returned (.bool (goL G d l).2)/\Ext (eb :: C) w w'/\I (goL G d l).1 w'/\Bn w' eb vs
def Acm (l:List St):Prop:=∀(f:FuncId) (caps:Array Value) (C:List Nat) (n nb eb:Nat) (G:List Az->Az->Bool) (I:List Az->World->Prop) (A:Option Addr) (cap:Nat) (gs:List Nat) (names:List ByteArray) (vs:List Int) (no:Nat) (xs:List Int) (gl L:List Nat) (AL:List Value) (d:List Az) (w:World),
 DoC f caps C n nb eb L G I->Dh w n nb L AL names xs gl no A gs l->Bn w eb vs->vs.length=names.length->n<=eb->I d w->Ni G d->
  Calls prog 148 #[.slice A l.length cap,.slice (some eb) vs.length 8,.func (.func f) #[] caps] w (Ak6 C eb vs G I d (Au (names.zip vs) no l) w)
theorem Lx.of {w:World}{n nb:Nat}{L:List Nat}{AL:List Value}{names:List ByteArray}{path:List Int}{gl:List Nat}{no g:Nat}{h:SH}{b:List St}{pb po:Nat}{CA:Option Addr}{cc:Nat}{A:Option Addr}{cap:Nat}{gs:List Nat}{PA:Option Addr}{pc:Nat}{vv:Value}(k:Af6 w n L AL names path gl no g h b pb po CA cc A cap gs PA pc vv)(hk:h.k=3)(hF:Fd nb names (.mk h b)):Lx w g names nb h no:=by
 obtain⟨vb,LA,lc,rfl,hx,-,-,-⟩:=k.val hk;have hb:=k.blk;rw[ijp hk,ijp hk,ijp hk] at hb
 have h3:Cn names h.at_=0/\Bs names nb h.val=0/\(0<=h.buf/\h.buf<nb):=by
  cases hF with
  | loop _ _ _ h1=>omega
  | when _ _ _ h1=>omega
  | store _ _ h1 h2 h3 h4 h5 h6=>exact⟨h4,h5,h3⟩
 refine⟨⟨pb,po,vb,n,[],hb.cell 0,k.src 8 _ rfl,hb.cell 16,hx⟩,fun j v hv=>?_,hb.cell 5,h3.1,h3.2.1,h3.2.2⟩
 rw[hb.cell];have h9:=(ils hv).1;have:j=0\/j=1\/j=2\/j=3\/j=4\/j=5\/j=6\/j=7\/j=8:=by simp[Bl] at h9;omega
 rcases this with rfl|rfl|rfl|rfl|rfl|rfl|rfl|rfl|rfl<;>exact hv
attribute [local irreducible] Bj
set_option maxRecDepth 100000 in
theorem Uv (l:List St)(ih:∀s∈l,Acm s.body):Acm l:=by
 intro f caps C n nb eb G I A cap gs names vs no xs gl L AL dn w hD hA hV hl hne hI hLT;have c1:=hd hLT;clear hLT;have HI:=hd ih;have ac:=hd hD;have HA:=hd hA;have HV:=hd hV;have HL:=hd hl;have c2:=hd hI;have ck:gs.length<=1000000:=hA.row.1;have cl:=hV.1;clear ih hD hA hV hl hI;generalize hn:l.length=m at *;have HN:=hd hn;generalize bZ:vs.length=d at *;have HD:=hd bZ;have cm:m<=1000000:=by have:=HA.o.len;omega
 clear hn bZ;generalize b2:names.zip vs=env at *;have ad:=hd b2;clear b2
 have hS:∀x∈eb :: C,n<=x:=fun x hx=>by
  rcases jE.1 hx with rfl|hx
  ·exact hne
  ·exact(ac.o.low x hx).1
 have b4:=hd hS;have b7:Hd (eb∉C):=hd fun h=>(ac.o.low eb h).2 rfl
 clear hS;go_enter func148,ntmps148
 go_wp2_with fail
 go_loopw [15] (fun i wr=>∃k:Nat,i=.int .i64 k/\k<=m/\Hd (Ext (eb :: C) w wr)/\Hd (I (goL G dn (Au env no (l.take k))).1 wr)/\Hd (Bn wr eb vs)/\Hd ((goL G dn (Au env no (l.take k))).2=true)) (fun i _=>(m-intOf i).toNat)
 case atStart=>exact⟨0,rfl,jQ _,hd (jF _ _),hd (by simpa[Au,goL] using c2.o),HV,hd (by simp[Au,goL])⟩
 case round=>
  obtain⟨k,rfl,hk,HE,aK,aq,HK⟩:=hrel;rename World=>wq
  by_cases cy:k<m
  ·have bu:(k:Int)<(m:Int):=by omega
   have bv:=hd (HA.o.step HE.o b4.o);obtain⟨bA,g,rfl,hg,bO⟩:=bv.o.row.at (i:=k) (by have:=HA.o.len;have:=HN.o;omega);have c3:wq.cell? ⟨bA,k,none⟩=some (.pointer (some g)):=by have:=bO 0 _ rfl;rw[Nat.mul_one,Nat.add_zero] at this;exact this
   have b8:=jB wq _ c3;simp only at b8;obtain⟨s,hs⟩:∃s,l[k]? = some s:=⟨_,jJ (by have:=HN.o;omega)⟩;obtain⟨h,bs⟩:=s;have aw:=ilm hs;obtain⟨pb,po,CA,cc,BA,bcap,bP,PA,pc,vv,hC⟩:=(bv.o.at_ k g _ hg hs).open_;have HC:=hd hC;have ao:=hd (HA.o.fd _ aw);have bx:=hd (HI.o _ aw);have c4:=hd (Ko (env:=env) (no:=no) hs);have bz:=hd (Kn env no (l.take (k+1)) (l.drop (k+1)));rw[List.take_append_drop] at bz;clear hg bO hs aw hC;have ai:=hd (Ni.go c1.o HK.o);generalize c0:goL G dn (Au env no (l.take k))=dk at *;have bC:=hd c0;clear c0;have a2:Hd (goL G dn (Au env no (l.take (k+1)))=goL G dk.1 (Cv env (no+Ab (l.take k)) (.mk h bs))):=hd (by rw[c4.o,Ly (by rw[bC.o];exact HK.o),bC.o])
   have ae:Hd ((goL G dk.1 (Cv env (no+Ab (l.take k)) (.mk h bs))).2=false->goL G dn (Au env no l)=goL G dk.1 (Cv env (no+Ab (l.take k)) (.mk h bs))):=hd fun hf=>by
    rw[bz.o,Oi (by rw[a2.o];exact hf),a2.o]
   generalize cx:no+Ab (l.take k)=nk at *;have bD:wq.cell? ⟨g,0,none⟩=some (.pointer (some ⟨pb,po,none⟩)):=HC.o.blk.cell 0;have bE:=HC.o.blk.lt;have qk:wq.cell? ⟨pb,po,none⟩=some (.int .i64 h.k):=HC.o.src 0 _ rfl;have ba:=jB wq _ qk;simp only at ba;have aj:=HC.o.gn;have ap:=HC.o.pn;have ah:Hd (∀b,b<n->b∉eb :: C):=hd fun b hb hm=>by have:=b4.o b hm;omega
   by_cases au:h.k=3
   ·
    have e3:(h.k==3)=true:=by simpa using au
    have aG:=hd au;have ak:=hd (Lx.of HC.o au ao.o);have c5:Hd (L[nk]? = some g):=hd (by obtain⟨_,_,_,_,_,h5,_⟩:=HC.o.val au;exact h5);generalize h.k=hk at qk e3;clear au;have al:=hd (ac.o.call dk.1 ⟨nk,h,env⟩ g names vs wq aK.o ai.o ak.o c5.o aq.o (by rw[HD.o];exact HL.o) ad.o.symm);rw[HD.o] at al;unfold ptV at al;have ax:Hd (Cv env nk (.mk h bs)=[⟨nk,h,env⟩]):=hd (Hk aG.o);rw[ax.o,Qq] at a2 ae;go_wp2_with fail
    rw[ac.o.enters,Oper.upon_enter];refine al.o.mono ?_
    rintro e w2 ⟨rfl,hE,bU⟩;have a7:=hd hE;have aM:=hd bU;clear hE bU al;cases hok:G dk.1 ⟨nk,h,env⟩
    ·have ay:=ae.o hok;rw[hok] at ay;have a6:=hd ay;clear ay hok;go_wp2_with fail
     go_ret
     exact⟨by rw[a6.o];rfl,HE.o.trans (a7.o.mono fun x hx=>.inl (jI _ hx)),by rw[a6.o];exact aM.o,aq.o.keep a7.o b7.o⟩
    ·have bb:=a2.o;rw[hok] at bb;have a6:=hd bb;clear bb hok;go_wp2_with fail
     go_roundw
     case rel=>exact⟨k+1,by go_num,by omega,hd (HE.o.trans (a7.o.mono fun x hx=>.inl (jI _ hx))),hd (by rw[a6.o];exact aM.o),hd (aq.o.keep a7.o b7.o),hd (by rw[a6.o])⟩
     case measure=>simp[intOf];omega
   ·have e3:(h.k==3)=false:=by simpa using au
    by_cases aF:h.k=2
    ·
     have e2:(h.k==2)=true:=by simpa using aF
     have aN:Hd (Aw names h=names):=hd (ijn (by omega))
     have bc:=hd (Ms g CA h.conds.length cc h names eb vs wq (by have:=HC.o.blk.cell 3;rw[this];simp[Ck,aF]) rfl (HC.o.cond aF).1 (by
       have:=ao.o;cases this with
       | loop _ _ _ h1=>omega
       | when _ _ _ _ _ h1 h2=>exact h1
       | store _ _ h1=>omega) aq.o (by rw[HD.o];exact HL.o))
     rw[HD.o,ad.o] at bc;have ax:=hd (Ij aF:Cv env nk (.mk h bs)=_);rw[ax.o] at a2 ae;generalize h.k=hk at qk e2 e3;clear aF au;go_wp2_with fail
     refine bc.o.mono ?_
     rintro e w2 ⟨rfl,hE⟩;have a7:=hd hE;clear hE bc;have bd:w2.cell? ⟨g,4,none⟩=some (.slice BA bs.length bcap):=(HC.o.blk.ext a7.o (by simp)).cell 4;have c6:=(HC.o.blk.ext a7.o (by simp)).lt;have aM:=hd (ac.o.keep _ _ _ a7.o.nil aK.o);have bF:=hd (aq.o.keep a7.o (by simp));cases hh:Ec env h
     ·rw[hh] at a2 ae;simp only[Bool.false_eq_true,if_false,goL] at a2;have a6:=a2;clear hh;go_wp2_with fail
      go_roundw
      case rel=>exact⟨k+1,by go_num,by omega,hd (HE.o.trans a7.o.nil),hd (by rw[a6.o];exact aM.o),bF,hd (by rw[a6.o])⟩
      case measure=>simp[intOf];omega
     ·rw[hh] at a2 ae;simp only[if_true] at a2 ae;clear hh;have aH:=hd ((Dh.body HC.o ao.o).step a7.o (by simp));rw[aN.o] at aH;have HQ:=hd (bx.o f caps C n nb eb G I BA bcap bP names vs nk (xs ++ [(k:Int)]) (Co gl h g) L AL dk.1 w2 ac.o aH.o bF.o (by rw[HD.o];exact HL.o) hne aM.o ai.o);simp only[St.body] at HQ;rw[HD.o,ad.o] at HQ;go_wp2_with fail
      refine HQ.o.mono ?_
      rintro e w3 ⟨rfl,bV,bW,bX⟩;have bG:=hd bV;have bH:=hd bW;have aO:=hd bX;clear bV bW bX HQ;cases hok:(goL G dk.1 (Au env nk bs)).2
      ·have a6:=hd (ae.o hok);have am:=hd hok;clear hok;go_wp2_with fail
       go_ret
       exact⟨by rw[a6.o,am.o];rfl,(HE.o.trans a7.o.nil).trans bG.o,by rw[a6.o];exact bH.o,aO.o⟩
      ·have am:=hd hok;clear hok;go_wp2_with fail
       go_roundw
       case rel=>exact⟨k+1,by go_num,by omega,hd ((HE.o.trans a7.o.nil).trans bG.o),hd (by rw[a2.o];exact bH.o),aO,hd (by rw[a2.o];exact am.o)⟩
       case measure=>simp[intOf];omega
    ·have e2:(h.k==2)=false:=by simpa using aF
     have be:h.k=1:=by
      have:=ao.o;cases this with
      | loop _ _ _ h1=>exact h1
      | when _ _ _ h1=>omega
      | store _ _ h1=>omega
     have aP:wq.cell? ⟨g,2,none⟩=some (.int .i64 (if h.k=1 then(Ar h:Int) else 0)):=HC.o.blk.cell 2;have bd:wq.cell? ⟨g,4,none⟩=some (.slice BA bs.length bcap):=HC.o.blk.cell 4;have qv:wq.cell? ⟨pb,po+5,none⟩=some (.bool h.vec):=HC.o.src 5 _ rfl;rw[ijp be] at aP;have aG:=hd be
     have a8:Hd ((-100000<=h.lo/\h.lo<=100000)/\(-100000<=h.hi/\h.hi<=100000)/\(1<=h.step/\h.step<=100000)/\names.length<8):=hd (by
      have:=ao.o;cases this with
      | loop _ _ _ _ _ _ h0 h1 h2 h3=>exact⟨h1,h2,h3,h0⟩
      | when _ _ _ h1=>omega
      | store _ _ h1=>omega)
     have c7:Hd (h.vec=true->∀s∈bs,s.h.k=3):=hd (by
      have:=ao.o;cases this with
      | loop _ _ _ _ _ _ _ _ _ _ h4=>exact h4
      | when _ _ _ h1=>omega
      | store _ _ h1=>omega)
     have cn:Ar h<=200000:=Fl a8.o.1 a8.o.2.1 a8.o.2.2.1;generalize h.k=hk at qk e2 e3;clear be aF au;cases hvec:h.vec
     ·
      rw[hvec] at qv;have ax:=hd (Jv aG.o hvec:Cv env nk (.mk h bs)=_);rw[ax.o] at a2 ae;clear hvec;generalize b3:Ar h=mn at *;have b5:=hd b3;clear b3;go_wp2_with fail
      clear aP;go_loopw [23] (fun i wx=>∃j:Nat,i=.int .i64 j/\j<=mn/\Hd (Ext (eb :: C) wq wx)/\Hd (I (goL G dk.1 (Ef j fun k=>Au (Bh env h k) nk bs)).1 wx)/\Hd (Bn wx eb vs)/\Hd ((goL G dk.1 (Ef j fun k=>Au (Bh env h k) nk bs)).2=true)) (fun i _=>(mn-intOf i).toNat)
      case atStart=>exact⟨0,rfl,jQ _,hd (jF _ _),hd (by simpa[Jt,goL] using aK.o),aq,hd (by simp[Jt,goL])⟩
      case round=>
       obtain⟨j,rfl,hj,aD,aW,aE,ag⟩:=hrel;rename World=>wj
       by_cases bt:j<mn
       ·have aQ:(j:Int)<(mn:Int):=by omega
        have ab:=aD;have q0:wj.cell? ⟨g,0,none⟩=some (.pointer (some ⟨pb,po,none⟩)):=ab.o.held bD (ah.o g aj);have q4:wj.cell? ⟨g,4,none⟩=some (.slice BA bs.length bcap):=ab.o.held bd (ah.o g aj);have ql:wj.cell? ⟨pb,po+2,none⟩=some (.int .i64 h.lo):=ab.o.held (HC.o.src 2 _ rfl) (ah.o pb ap);have qs:wj.cell? ⟨pb,po+4,none⟩=some (.int .i64 h.step):=ab.o.held (HC.o.src 4 _ rfl) (ah.o pb ap)
        have bf:Hd (∀W,Ext [eb] wj W->W.cell? ⟨g,0,none⟩=some (.pointer (some ⟨pb,po,none⟩))/\W.cell? ⟨g,4,none⟩=some (.slice BA bs.length bcap)/\g<W.heap.size/\W.cell? ⟨pb,po+2,none⟩=some (.int .i64 h.lo)/\W.cell? ⟨pb,po+4,none⟩=some (.int .i64 h.step)/\pb<W.heap.size):=hd fun W hW=>by
         have a1:∀b,b<n->b∉[eb]:=fun b hb hm=>by rw[jA] at hm;omega
         have h1:=hW.size;have h2:=ab.o.size;exact⟨hW.held q0 (a1 g aj),hW.held q4 (a1 g aj),by omega,hW.held ql (a1 pb ap),hW.held qs (a1 pb ap),by omega⟩
        have aa:=hd (Es a8.o.1 a8.o.2.1 a8.o.2.2.1 (by rw[b5.o];exact bt):Bdd (Dj h j));have bh:d<8:=by have:=a8.o.2.2.2;have:=HL.o;omega
        have az:=hd (Kd (by rw[HD.o];exact HL.o) h j:Bh (names.zip vs) h j=_);rw[ad.o] at az;have bi:=a8.o.1;unfold Dj at aa az;generalize br:h.lo=lo at *;generalize an:h.step=st at *;clear q0 q4 ql qs;have m1 : -9223372036854775808<=(j:Int)*st:=by have:=aa.o.1;omega
        have m2:(j:Int)*st<=9223372036854775807:=by have:=aa.o.2;omega
        have m3 : -9223372036854775808<=lo+(j:Int)*st:=by have:=aa.o.1;omega
        have m4:lo+(j:Int)*st<=9223372036854775807:=by have:=aa.o.2;omega
        clear br an;have aA:=hd (Ei j fun k=>Au (Bh env h k) nk bs);have bI:Hd ((goL G dk.1 (Ef (j+1) fun k=>Au (Bh env h k) nk bs)).2=false->goL G dk.1 (Ef mn fun k=>Au (Bh env h k) nk bs)=goL G dk.1 (Ef (j+1) fun k=>Au (Bh env h k) nk bs)):=hd fun hf=>Aiq hf (by omega)
        rw[aA.o,Ly ag.o] at bI;have aN:Hd (Aw names h=names ++ [h.var]):=hd (ijp aG.o);go_upto_region 7 with fail
        refine rgW 25 [eb] (Nr eb d (lo+(j:Int)*st)) [(22,Aq wj.heap.size [.int .i64 (lo+(j:Int)*st)]),(23,Is eb (d+1) (vs ++ [lo+(j:Int)*st]))] ?_ ?_
        ·refine Am.cons (Aq.stays fun b j u y hb hu hf=>?_) (Am.cons (Is.stays fun y hy=>?_) Am.nil)
         ·have h9:b=eb:=hf.1;have:=aE.o.lt;omega
         ·rw[<-HD.o,jM (jD _),Nat.sub_self] at hy;cases hy
          rfl
        simp only[TK]
        repeat(refine dE (fun wr nr hJ=>by(obtain⟨q0,q4,bE,ql,qs,ba⟩:=bf.o wr hJ.1);clear hJ;exact CL) ?_;simp only[PT])
        refine Eg (Aq wj.heap.size [.int .i64 (lo+(j:Int)*st)]) rfl rfl (fun wr nr hJ hf=>?_) ?_
        ·refine⟨wr.heap.size,.cells #[.int .i64 (lo+(j:Int)*st)] 3,?_,Ext.size hJ.1,Cs _ _ _ ((jK wr 3 #[.int .i64 (lo+(j:Int)*st)]).cell 0)⟩
         (go_simp;try go_bits)
         first|rfl|exact⟨rfl,rfl⟩
        intro (b23:Nat);simp only[PT];refine Iq eb b23 1 d vs (lo+(j:Int)*st) _ _ rfl rfl rfl rfl rfl HD.o bh aa.o (fun wr nr hJ hf=>?_) ?_
        ·have bj:(Aq wj.heap.size [.int .i64 (lo+(j:Int)*st)]).V b23 wr:=Bd hf 22 (by kernel_rfl);exact⟨aE.o.rw hJ.2 fun y hy=>by have:=(ils hy).1;have:=HD.o;omega,bj.2 0 _ rfl⟩
        simp only[PT]
        repeat(refine dE (fun wr nr hJ=>by clear hJ;exact CL) ?_;simp only[PT])
        refine Aj (fun w5 hJ hF=>?_)
        have aI:Hd (Bn w5 eb (vs ++ [lo+(j:Int)*st])):=hd (hF 23);have aJ:=hd hJ.1;clear hF hJ;have aR:Hd (Ext (eb :: C) wq w5):=hd (aD.o.trans (aJ.o.mono fun x hx=>.inl (by rw[jA.1 hx];simp)));have aH:=hd ((Dh.body HC.o ao.o).step aR.o b4.o);rw[aN.o] at aH;have HQ:=hd (bx.o f caps C n nb eb G I BA bcap bP (names ++ [h.var]) (vs ++ [lo+(j:Int)*st]) nk (xs ++ [(k:Int)]) (Co gl h g) L AL _ w5 ac.o aH.o aI.o (by simp;have:=HL.o;have:=HD.o;omega) hne (ac.o.keep _ _ _ aJ.o aW.o) (Ni.go ai.o ag.o));simp only[St.body] at HQ;rw[<-az.o,jG,jS,HD.o] at HQ;clear aH;go_wp2_with fail
        refine HQ.o.mono ?_
        rintro e w7 ⟨rfl,aZ,b0,bY⟩;have aS:=hd aZ;have aT:=hd b0;have aU:=hd bY.pop;clear aZ b0 bY HQ aI;have b6:Hd (Ext (eb :: C) wq w7):=hd (aR.o.trans aS.o);cases hok:(goL G (goL G dk.1 (Ef j fun k=>Au (Bh env h k) nk bs)).1 (Au (Bh env h j) nk bs)).2
        ·have ak:=hd (bI.o hok);have a6:=hd (ae.o (by rw[ak.o];exact hok));have am:=hd hok;clear hok;go_wp2_with fail
         go_ret
         exact⟨by rw[a6.o,ak.o,am.o];rfl,HE.o.trans b6.o,by rw[a6.o,ak.o];exact aT.o,aU.o⟩
        ·have am:=hd hok;clear hok;go_wp2_with fail
         go_roundw
         case rel=>exact⟨j+1,by go_num,by omega,b6,hd (by rw[aA.o,Ly ag.o];exact aT.o),aU,hd (by rw[aA.o,Ly ag.o];exact am.o)⟩
         case measure=>simp[intOf];omega
       ·have aQ:j=mn:=by omega
        subst aQ;go_wp2_with fail
        go_roundw
        case rel=>exact⟨k+1,by go_num,by omega,hd (HE.o.trans aD.o),hd (by rw[a2.o];exact aW.o),aE,hd (by rw[a2.o];exact ag.o)⟩
        case measure=>simp[intOf];omega
     ·
      rw[hvec] at qv;have ax:=hd (Ju aG.o hvec:Cv env nk (.mk h bs)=_);rw[ax.o] at a2 ae;have aO:=hd (c7.o hvec);have bJ:Hd (∀s∈bs,Fd nb (Aw names h) s):=hd (Dh.body HC.o ao.o).fd;have aN:Hd (Aw names h=names ++ [h.var]):=hd (ijp aG.o);have c8:=hd aP;clear hvec aP;have c9:bs.length<=1000000:=by have:=HC.o.row.1.1;have:=HC.o.len;omega
      go_wp2_with fail
      go_loopw [103] (fun i wx=>∃a:Nat,i=.int .i64 a/\a<=bs.length/\Hd (Ext (eb :: C) wq wx)/\Hd (I (goL G dk.1 (Ct env h nk (bs.take a))).1 wx)/\Hd (Bn wx eb vs)/\Hd ((goL G dk.1 (Ct env h nk (bs.take a))).2=true)) (fun i _=>(bs.length-intOf i).toNat)
      case atStart=>exact⟨0,rfl,jQ _,hd (jF _ _),hd (by simpa[Ct,goL] using aK.o),aq,hd (by simp[Ct,goL])⟩
      case round=>
       obtain⟨a,rfl,ha,aL,bo,bQ,bp⟩:=hrel;rename World=>wa
       by_cases cj:a<bs.length
       ·have co:(a:Int)<(bs.length:Int):=by omega
        obtain⟨bB,g1,rfl,bR,aX⟩:=HC.o.row.1.at (i:=a) (by have:=HC.o.len;omega);have bK:wq.cell? ⟨bB,a,none⟩=some (.pointer (some g1)):=by have:=aX 0 _ rfl;rw[Nat.mul_one,Nat.add_zero] at this;exact this
        have ca:=HC.o.row.2 bB 0 rfl;have cb:wa.cell? ⟨bB,a,none⟩=some (.pointer (some g1)):=aL.o.held bK (ah.o bB ca);have bk:=jB wa _ cb;simp only at bk;have aP:wa.cell? ⟨g,2,none⟩=some (.int .i64 (Ar h)):=aL.o.held c8.o (ah.o g aj);have ce:g<wa.heap.size:=by have:=aL.o.size;omega
        obtain⟨s1,aY⟩:∃s1,bs[a]? = some s1:=⟨_,jJ cj⟩;have af:=ilm aY;have aV:=aO.o _ af
        have an:Ab (bs.take a)=a:=by
         rw[Ns (fun s hs=>aO.o s (List.mem_of_mem_take hs)) fun s hs=>bJ.o s (List.mem_of_mem_take hs),List.length_take];omega
        have aB:=HC.o.kid a g1 s1 bR aY;rw[an] at aB;obtain⟨h1,b1⟩:=s1;have bl:=hd aB;have cf:=hd (bJ.o _ af);have bL:=hd aV;have cg:=hd aY;have bM:=hd (Mp (env:=env) (h:=h) (no:=nk) aY);clear aB af aV an bR aX bK aY;generalize b3:Ar h=mn at *;have b5:=hd b3;clear b3;go_wp2_with fail
        go_loopw [111] (fun i wx=>∃j:Nat,i=.int .i64 j/\j<=mn/\Hd (Ext (eb :: C) wa wx)/\Hd (I (goL G dk.1 (Ct env h nk (bs.take a) ++ Fz env h (nk+a) (.mk h1 b1) j)).1 wx)/\Hd (Bn wx eb vs)/\Hd ((goL G dk.1 (Ct env h nk (bs.take a) ++ Fz env h (nk+a) (.mk h1 b1) j)).2=true)) (fun i _=>(mn-intOf i).toNat)
        case atStart=>exact⟨0,rfl,jQ _,hd (jF _ _),hd (by rw[Mo,List.append_nil];exact bo.o),bQ,hd (by rw[Mo,List.append_nil];exact bp.o)⟩
        case round=>
         obtain⟨j,rfl,hj,aD,aW,aE,ag⟩:=hrel;rename World=>wj
         by_cases bt:j<mn
         ·have aQ:(j:Int)<(mn:Int):=by omega
          have ab:Hd (Ext (eb :: C) wq wj):=hd (aL.o.trans aD.o);have q0:wj.cell? ⟨g,0,none⟩=some (.pointer (some ⟨pb,po,none⟩)):=ab.o.held bD (ah.o g aj);have q4:wj.cell? ⟨g,4,none⟩=some (.slice (some bB) bs.length bcap):=ab.o.held bd (ah.o g aj);have ql:wj.cell? ⟨pb,po+2,none⟩=some (.int .i64 h.lo):=ab.o.held (HC.o.src 2 _ rfl) (ah.o pb ap);have qs:wj.cell? ⟨pb,po+4,none⟩=some (.int .i64 h.step):=ab.o.held (HC.o.src 4 _ rfl) (ah.o pb ap)
          have bf:Hd (∀W,Ext [eb] wj W->W.cell? ⟨g,0,none⟩=some (.pointer (some ⟨pb,po,none⟩))/\W.cell? ⟨g,4,none⟩=some (.slice (some bB) bs.length bcap)/\g<W.heap.size/\W.cell? ⟨pb,po+2,none⟩=some (.int .i64 h.lo)/\W.cell? ⟨pb,po+4,none⟩=some (.int .i64 h.step)/\pb<W.heap.size):=hd fun W hW=>by
           have a1:∀b,b<n->b∉[eb]:=fun b hb hm=>by rw[jA] at hm;omega
           have h1:=hW.size;have h2:=ab.o.size;exact⟨hW.held q0 (a1 g aj),hW.held q4 (a1 g aj),by omega,hW.held ql (a1 pb ap),hW.held qs (a1 pb ap),by omega⟩
          have aa:=hd (Es a8.o.1 a8.o.2.1 a8.o.2.2.1 (by rw[b5.o];exact bt):Bdd (Dj h j));have bh:d<8:=by have:=a8.o.2.2.2;have:=HL.o;omega
          have az:=hd (Kd (by rw[HD.o];exact HL.o) h j:Bh (names.zip vs) h j=_);rw[ad.o] at az;have bi:=a8.o.1;unfold Dj at aa az;generalize br:h.lo=lo at *;generalize an:h.step=st at *;clear q0 q4 ql qs;have m1 : -9223372036854775808<=(j:Int)*st:=by have:=aa.o.1;omega
          have m2:(j:Int)*st<=9223372036854775807:=by have:=aa.o.2;omega
          have m3 : -9223372036854775808<=lo+(j:Int)*st:=by have:=aa.o.1;omega
          have m4:lo+(j:Int)*st<=9223372036854775807:=by have:=aa.o.2;omega
          clear br an;have aA:=hd (Jw env h (nk+a) (.mk h1 b1) j);have bN:=hd (fun hf=>Air (G:=G) (d:=dk.1) (env:=env) (no:=nk) cg.o (show j+1<=Ar h by rw[b5.o];omega) hf);rw[aA.o,<-jP,Ly ag.o,Qq] at bN;go_upto_region 23 with fail
          refine rgW 22 [eb] (Nr eb d (lo+(j:Int)*st)) [(20,Aq wj.heap.size [.int .i64 (lo+(j:Int)*st)]),(21,Is eb (d+1) (vs ++ [lo+(j:Int)*st]))] ?_ ?_
          ·refine Am.cons (Aq.stays fun b j u y hb hu hf=>?_) (Am.cons (Is.stays fun y hy=>?_) Am.nil)
           ·have h9:b=eb:=hf.1;have:=aE.o.lt;omega
           ·rw[<-HD.o,jM (jD _),Nat.sub_self] at hy;cases hy
            rfl
          simp only[TK]
          repeat(refine dE (fun wr nr hJ=>by(obtain⟨q0,q4,bE,ql,qs,ba⟩:=bf.o wr hJ.1);clear hJ;exact CL) ?_;simp only[PT])
          refine Eg (Aq wj.heap.size [.int .i64 (lo+(j:Int)*st)]) rfl rfl (fun wr nr hJ hf=>?_) ?_
          ·refine⟨wr.heap.size,.cells #[.int .i64 (lo+(j:Int)*st)] 3,?_,Ext.size hJ.1,Cs _ _ _ ((jK wr 3 #[.int .i64 (lo+(j:Int)*st)]).cell 0)⟩
           (go_simp;try go_bits)
           first|rfl|exact⟨rfl,rfl⟩
          intro (b23:Nat);simp only[PT];refine Iq eb b23 1 d vs (lo+(j:Int)*st) _ _ rfl rfl rfl rfl rfl HD.o bh aa.o (fun wr nr hJ hf=>?_) ?_
          ·have bj:(Aq wj.heap.size [.int .i64 (lo+(j:Int)*st)]).V b23 wr:=Bd hf 20 (by kernel_rfl);exact⟨aE.o.rw hJ.2 fun y hy=>by have:=(ils hy).1;have:=HD.o;omega,bj.2 0 _ rfl⟩
          simp only[PT]
          repeat(refine dE (fun wr nr hJ=>by clear hJ;exact CL) ?_;simp only[PT])
          refine Aj (fun w5 hJ hF=>?_)
          have aI:Hd (Bn w5 eb (vs ++ [lo+(j:Int)*st])):=hd (hF 21);have aJ:=hd hJ.1;clear hF hJ;have aR:Hd (Ext (eb :: C) wq w5):=hd (ab.o.trans (aJ.o.mono fun x hx=>.inl (by rw[jA.1 hx];simp)));obtain⟨cp,cq,cr,cs,ct,bS,ci,cu,cv,cw,bq⟩:=(bl.o.step aR.o (fun x hx=>.inr (b4.o x hx)) (jD n) (by simp) (fun i g h=>h) fun i g h=>h).open_;have aC:=Lx.of bq bL.o cf.o;obtain⟨_,_,_,_,_,bT,_⟩:=bq.val bL.o;rw[aN.o] at aC;have al:=hd (ac.o.call _ ⟨nk+a,h1,Bh env h j⟩ g1 (names ++ [h.var]) (vs ++ [lo+(j:Int)*st]) w5 (ac.o.keep _ _ _ aJ.o aW.o) (Ni.go ai.o ag.o) aC bT aI.o (by simp;have:=HL.o;have:=HD.o;omega) az.o);rw[jG,jS,HD.o] at al;unfold ptV at al;clear aC bT bq;go_wp2_with fail
          rw[ac.o.enters,Oper.upon_enter];refine al.o.mono ?_
          rintro e w7 ⟨rfl,aZ,b0⟩;have aS:=hd aZ;have aT:=hd b0;have aU:=hd (aI.o.pop.keep aS.o b7.o);clear aZ b0 al aI;have b6:Hd (Ext (eb :: C) wq w7):=hd (aR.o.trans (aS.o.mono fun x hx=>.inl (jI _ hx)));have bm:Hd (Ext (eb :: C) wa w7):=hd ((aD.o.trans (aJ.o.mono fun x hx=>.inl (by rw[jA.1 hx];simp))).trans (aS.o.mono fun x hx=>.inl (jI _ hx)));cases hok:G (goL G dk.1 (Ct env h nk (bs.take a) ++ Fz env h (nk+a) (.mk h1 b1) j)).1 ⟨nk+a,h1,Bh env h j⟩
          ·have an:=bN.o hok;have ak:=hd (an.trans (by rw[show(St.mk h1 b1).h=h1 from rfl,hok]));have a6:=hd (ae.o (by rw[ak.o]));clear hok an;go_wp2_with fail
           go_ret
           exact⟨by rw[a6.o,ak.o];rfl,HE.o.trans b6.o,by rw[a6.o,ak.o];exact aT.o,aU.o⟩
          ·have am:=hd hok;clear hok;go_wp2_with fail
           go_roundw
           case rel=>exact⟨j+1,by go_num,by omega,bm,hd (by rw[aA.o,<-jP,Ly ag.o,Qq];exact aT.o),aU,hd (by rw[aA.o,<-jP,Ly ag.o,Qq];exact am.o)⟩
           case measure=>simp[intOf];omega
         ·have aQ:j=mn:=by omega
          subst aQ;go_wp2_with fail
          go_roundw
          case rel=>
           exact⟨a+1,by go_num,by omega,hd (aL.o.trans aD.o),hd (by rw[bM.o];exact aW.o),aE,hd (by rw[bM.o];exact ag.o)⟩
          case measure=>simp[intOf];omega
       ·have bn:a=bs.length:=by omega
        subst bn;rw[List.take_length] at bo bp;go_wp2_with fail
        go_roundw
        case rel=>exact⟨k+1,by go_num,by omega,hd (HE.o.trans aL.o),hd (by rw[a2.o];exact bo.o),bQ,hd (by rw[a2.o];exact bp.o)⟩
        case measure=>simp[intOf];omega
  ·
   have bu:k=m:=by omega
   subst bu;have ch:l.take k=l:=List.take_of_length_le (by rw[HN.o];exact jD _);rw[ch] at aK HK;go_wp2_with fail
   go_ret
   exact⟨by rw[HK.o];rfl,HE.o,aK.o,aq.o⟩
theorem Af8 (l:List St):Acm l:=Uv l fun s _=>Dn (P:=fun s=>Acm s.body) (fun h ks ih=>Uv ks ih) s
end Go.Proofs.YtfppibmloloakaaGreatDoor
