import Derived.Test.YtfppibmloloakaaGreatDoorK02
import Derived.Lib.SliceRun
namespace Go.Proofs.YtfppibmloloakaaGreatDoor
open Go.RowKit Go.Proofs.Tryz
set_option linter.all false
set_option maxHeartbeats 64000000
theorem Ep {α:Type}{L:List α}{p:α->Bool}{n:Nat}(hn:L.length=n)(h:∀(j:Nat) (x:α),j<n->L[j]? = some x->p x=false):L.any p=false:=by
 rw[List.any_eq_false];intro x hx;obtain⟨j,hj,rfl⟩:=List.getElem_of_mem hx;rw[h j _ (by omega) (jJ hj)];simp
theorem Ii {α:Type}{L:List α}{p:α->Bool}{i:Nat}{x:α}(h:L[i]? = some x)(hp:p x=true):L.any p=true:=List.any_eq_true.2 ⟨x,ilm h,hp⟩
def Xo (t:Bool)(w:World)(e:Ending)(w':World):Prop:=∃r:Int,e=.returned (.int .i64 r)/\decide (0<=r)=t/\Ext [] w w'
def Fk (t:Bool)(w:World)(e:Ending)(w':World):Prop:=e=.returned (.bool t)/\Ext [] w w'
def tmV (t:ByteArray×Int):Value:=.agg #[.string t.1,.int .i64 t.2]
def Iv {α:Type}(P:Program)(f:FuncId)(caps:Array Value)(l:List α)(v:α->Value)(p:α->Bool)(w:World):Prop:=
 (∀args w,(callFunc f args).run P w=.ok (.enter f args) w)/\∀(i:Nat) (x:α),l[i]? = some x->∀w',Ext [] w w'->Calls P f (#[v x] ++ caps) w' (Fk (p x) w')
set_option maxRecDepth 100000 in
theorem Afb (A:Option Addr)(n cap:Nat)(l:List Bf)(f:FuncId)(caps:Array Value)(p:Bf->Bool)(w:World)(h:Ak w A 4 bfC l)(hl:l.length=n)(hf:Iv prog f caps l bfV p w) :
  Calls prog 120 #[.slice A n cap,.func (.func f) #[] caps] w (Xo (l.any p) w):=by
 have a2:n<=1000000:=by have:=h.1;omega
 have HP:=hd h;have HL:=hd hl;have HF:=hd hf;clear h hl hf;go_enter func120,ntmps120
 go_wp2_with fail
 go_loopw [8] (fun i wr=>∃k:Nat,i=.int .i64 k/\k<=n/\Hd (Ext [] w wr)/\Hd (∀(j:Nat) (x:Bf),j<k->l[j]? = some x->p x=false)) (fun i _=>(n-intOf i).toNat)
 case atStart=>exact⟨0,rfl,jQ _,hd (jF _ _),hd fun j x hj=>absurd hj (by omega)⟩
 case round=>
  obtain⟨k,rfl,hk,HE,HN⟩:=hrel;rename World=>wq
  by_cases a6:k<n
  ·obtain⟨b,x,rfl,hx,hc⟩:=(HP.o.keep HE.o).at (i:=k) (by have:=HL.o;omega);obtain⟨x0,x1,x2,x3,x4,x5⟩:=x;have g0:=hc 0 _ rfl;have g1:=hc 1 _ rfl;have g2:=hc 2 _ rfl;have g3:=hc 3 _ rfl;rw[Nat.add_zero] at g0;have HQ:=hd (HF.o.2 k _ hx wq HE.o);have HX:=hd hx;clear hx hc;go_wp2_with fail
   rw[HF.o.1,Oper.upon_enter];refine HQ.o.mono ?_
   rintro e w' ⟨rfl,hE⟩;have a1:=hd (HE.o.trans hE);clear hE;generalize hp:p _=t;cases t
   ·have HQ:=hd hp;clear hp;go_wp2_with fail
    go_roundw
    case rel=>
     refine⟨k+1,by go_num,by omega,a1,hd fun j x hj hx=>?_⟩
     rcases Nat.lt_or_ge j k with h1|h1
     ·exact HN.o j x h1 hx
     ·have:j=k:=by omega
      subst this;have:=HX.o.symm.trans hx;cases this
      exact HQ.o
    case measure=>simp[intOf];omega
   ·have HQ:=hd hp;clear hp;go_wp2_with fail
    go_ret
    exact⟨_,rfl,by rw[Ii HX.o HQ.o];simp,a1.o⟩
  ·go_wp2_with fail
   go_ret
   exact⟨_,rfl,by rw[Ep HL.o (fun j x hj hx=>HN.o j x (by omega) hx)];rfl,HE.o⟩
theorem Afc (A:Option Addr)(n cap:Nat)(l:List Bf)(f:FuncId)(caps:Array Value)(p:Bf->Bool)(w:World)(h:Ak w A 4 bfC l)(hl:l.length=n)(hf:Iv prog f caps l bfV p w) :
  Calls prog 75 #[.slice A n cap,.func (.func f) #[] caps] w (Fk (l.any p) w):=by
 have HI:=hd (Afb A n cap l f caps p w h hl hf);clear h hl hf;go_enter func75,ntmps75
 go_wp2_with fail
 refine HI.o.mono ?_
 rintro e w' ⟨r,rfl,hr,hE⟩;have HR:=hd hr;have HE:=hd hE;clear hr hE;go_wp2_with fail
 go_ret
 exact⟨Aa (by rw[<-HR.o]),HE.o⟩
set_option maxRecDepth 100000 in
theorem Afd (A:Option Addr)(n cap:Nat)(l:List Int)(f:FuncId)(caps:Array Value)(p:Int->Bool)(w:World)(h:Ak w A 1 inC l)(hl:l.length=n)(hf:Iv prog f caps l (Value.int .i64) p w) :
  Calls prog 121 #[.slice A n cap,.func (.func f) #[] caps] w (Xo (l.any p) w):=by
 have a2:n<=1000000:=by have:=h.1;omega
 have HP:=hd h;have HL:=hd hl;have HF:=hd hf;clear h hl hf;go_enter func121,ntmps121
 go_wp2_with fail
 go_loopw [8] (fun i wr=>∃k:Nat,i=.int .i64 k/\k<=n/\Hd (Ext [] w wr)/\Hd (∀(j:Nat) (x:Int),j<k->l[j]? = some x->p x=false)) (fun i _=>(n-intOf i).toNat)
 case atStart=>exact⟨0,rfl,jQ _,hd (jF _ _),hd fun j x hj=>absurd hj (by omega)⟩
 case round=>
  obtain⟨k,rfl,hk,HE,HN⟩:=hrel;rename World=>wq
  by_cases a6:k<n
  ·obtain⟨b,x,rfl,hx,hc⟩:=(HP.o.keep HE.o).at (i:=k) (by have:=HL.o;omega);skip
   have g0:=hc 0 _ rfl;rw[Nat.add_zero,Nat.mul_one] at g0;have HQ:=hd (HF.o.2 k _ hx wq HE.o);have HX:=hd hx;clear hx hc;go_wp2_with fail
   rw[HF.o.1,Oper.upon_enter];refine HQ.o.mono ?_
   rintro e w' ⟨rfl,hE⟩;have a1:=hd (HE.o.trans hE);clear hE;generalize hp:p _=t;cases t
   ·have HQ:=hd hp;clear hp;go_wp2_with fail
    go_roundw
    case rel=>
     refine⟨k+1,by go_num,by omega,a1,hd fun j x hj hx=>?_⟩
     rcases Nat.lt_or_ge j k with h1|h1
     ·exact HN.o j x h1 hx
     ·have:j=k:=by omega
      subst this;have:=HX.o.symm.trans hx;cases this
      exact HQ.o
    case measure=>simp[intOf];omega
   ·have HQ:=hd hp;clear hp;go_wp2_with fail
    go_ret
    exact⟨_,rfl,by rw[Ii HX.o HQ.o];simp,a1.o⟩
  ·go_wp2_with fail
   go_ret
   exact⟨_,rfl,by rw[Ep HL.o (fun j x hj hx=>HN.o j x (by omega) hx)];rfl,HE.o⟩
theorem Wc (A:Option Addr)(n cap:Nat)(l:List Int)(f:FuncId)(caps:Array Value)(p:Int->Bool)(w:World)(h:Ak w A 1 inC l)(hl:l.length=n)(hf:Iv prog f caps l (Value.int .i64) p w) :
  Calls prog 78 #[.slice A n cap,.func (.func f) #[] caps] w (Fk (l.any p) w):=by
 have HI:=hd (Afd A n cap l f caps p w h hl hf);clear h hl hf;go_enter func78,ntmps78
 go_wp2_with fail
 refine HI.o.mono ?_
 rintro e w' ⟨r,rfl,hr,hE⟩;have HR:=hd hr;have HE:=hd hE;clear hr hE;go_wp2_with fail
 go_ret
 exact⟨Aa (by rw[<-HR.o]),HE.o⟩
set_option maxRecDepth 100000 in
theorem Afe (A:Option Addr)(n cap:Nat)(l:List St)(f:FuncId)(caps:Array Value)(p:St->Bool)(w:World)(h:Ak w A 21 stC l)(hl:l.length=n)(hf:Iv prog f caps l stV p w) :
  Calls prog 172 #[.slice A n cap,.func (.func f) #[] caps] w (Xo (l.any p) w):=by
 have a2:n<=1000000:=by have:=h.1;omega
 have HP:=hd h;have HL:=hd hl;have HF:=hd hf;clear h hl hf;go_enter func172,ntmps172
 go_wp2_with fail
 go_loopw [8] (fun i wr=>∃k:Nat,i=.int .i64 k/\k<=n/\Hd (Ext [] w wr)/\Hd (∀(j:Nat) (x:St),j<k->l[j]? = some x->p x=false)) (fun i _=>(n-intOf i).toNat)
 case atStart=>exact⟨0,rfl,jQ _,hd (jF _ _),hd fun j x hj=>absurd hj (by omega)⟩
 case round=>
  obtain⟨k,rfl,hk,HE,HN⟩:=hrel;rename World=>wq
  by_cases a6:k<n
  ·obtain⟨b,x,rfl,hx,hc⟩:=(HP.o.keep HE.o).at (i:=k) (by have:=HL.o;omega);obtain⟨h,zk⟩:=x;have HC:=hd (fun j v hv=>hc j v hv:∀(j:Nat) (v:Value),(Ai h zk.length h.val.h h.val.ks.length).toList[j]? = some v->wq.cell? ⟨b,k*21+j,none⟩=some v);have HQ:=hd (HF.o.2 k _ hx wq HE.o);have HX:=hd hx;clear hx hc
   go_wp2_with (
    refine Ac rfl 43 _ rfl b (k*21) rfl (Ai h zk.length h.val.h h.val.ks.length) HC.o _ underlying43 rfl Dv ?_)
   rw[HF.o.1,Oper.upon_enter];refine HQ.o.mono ?_
   rintro e w' ⟨rfl,hE⟩;have a1:=hd (HE.o.trans hE);clear hE;generalize hp:p _=t;cases t
   ·have HQ:=hd hp;clear hp;go_wp2_with fail
    go_roundw
    case rel=>
     refine⟨k+1,by go_num,by omega,a1,hd fun j x hj hx=>?_⟩
     rcases Nat.lt_or_ge j k with h1|h1
     ·exact HN.o j x h1 hx
     ·have:j=k:=by omega
      subst this;have:=HX.o.symm.trans hx;cases this
      exact HQ.o
    case measure=>simp[intOf];omega
   ·have HQ:=hd hp;clear hp;go_wp2_with fail
    go_ret
    exact⟨_,rfl,by rw[Ii HX.o HQ.o];simp,a1.o⟩
  ·go_wp2_with fail
   go_ret
   exact⟨_,rfl,by rw[Ep HL.o (fun j x hj hx=>HN.o j x (by omega) hx)];rfl,HE.o⟩
theorem Aff (A:Option Addr)(n cap:Nat)(l:List St)(f:FuncId)(caps:Array Value)(p:St->Bool)(w:World)(h:Ak w A 21 stC l)(hl:l.length=n)(hf:Iv prog f caps l stV p w) :
  Calls prog 125 #[.slice A n cap,.func (.func f) #[] caps] w (Fk (l.any p) w):=by
 have HI:=hd (Afe A n cap l f caps p w h hl hf);clear h hl hf;go_enter func125,ntmps125
 go_wp2_with fail
 refine HI.o.mono ?_
 rintro e w' ⟨r,rfl,hr,hE⟩;have HR:=hd hr;have HE:=hd hE;clear hr hE;go_wp2_with fail
 go_ret
 exact⟨Aa (by rw[<-HR.o]),HE.o⟩
set_option maxRecDepth 100000 in
theorem Afg (A:Option Addr)(n cap:Nat)(l:List (ByteArray×Int))(f:FuncId)(caps:Array Value)(p:(ByteArray×Int)->Bool)(w:World)(h:Ak w A 2 tmC l)(hl:l.length=n)(hf:Iv prog f caps l tmV p w) :
  Calls prog 209 #[.slice A n cap,.func (.func f) #[] caps] w (Xo (l.any p) w):=by
 have a2:n<=1000000:=by have:=h.1;omega
 have HP:=hd h;have HL:=hd hl;have HF:=hd hf;clear h hl hf;go_enter func209,ntmps209
 go_wp2_with fail
 go_loopw [8] (fun i wr=>∃k:Nat,i=.int .i64 k/\k<=n/\Hd (Ext [] w wr)/\Hd (∀(j:Nat) (x:(ByteArray×Int)),j<k->l[j]? = some x->p x=false)) (fun i _=>(n-intOf i).toNat)
 case atStart=>exact⟨0,rfl,jQ _,hd (jF _ _),hd fun j x hj=>absurd hj (by omega)⟩
 case round=>
  obtain⟨k,rfl,hk,HE,HN⟩:=hrel;rename World=>wq
  by_cases a6:k<n
  ·obtain⟨b,x,rfl,hx,hc⟩:=(HP.o.keep HE.o).at (i:=k) (by have:=HL.o;omega);obtain⟨x0,x1⟩:=x;have g0:=hc 0 _ rfl;have g1:=hc 1 _ rfl;rw[Nat.add_zero] at g0;have HQ:=hd (HF.o.2 k _ hx wq HE.o);have HX:=hd hx;clear hx hc;go_wp2_with fail
   rw[HF.o.1,Oper.upon_enter];refine HQ.o.mono ?_
   rintro e w' ⟨rfl,hE⟩;have a1:=hd (HE.o.trans hE);clear hE;generalize hp:p _=t;cases t
   ·have HQ:=hd hp;clear hp;go_wp2_with fail
    go_roundw
    case rel=>
     refine⟨k+1,by go_num,by omega,a1,hd fun j x hj hx=>?_⟩
     rcases Nat.lt_or_ge j k with h1|h1
     ·exact HN.o j x h1 hx
     ·have:j=k:=by omega
      subst this;have:=HX.o.symm.trans hx;cases this
      exact HQ.o
    case measure=>simp[intOf];omega
   ·have HQ:=hd hp;clear hp;go_wp2_with fail
    go_ret
    exact⟨_,rfl,by rw[Ii HX.o HQ.o];simp,a1.o⟩
  ·go_wp2_with fail
   go_ret
   exact⟨_,rfl,by rw[Ep HL.o (fun j x hj hx=>HN.o j x (by omega) hx)];rfl,HE.o⟩
theorem Aj3 (A:Option Addr)(n cap:Nat)(l:List (ByteArray×Int))(f:FuncId)(caps:Array Value)(p:(ByteArray×Int)->Bool)(w:World)(h:Ak w A 2 tmC l)(hl:l.length=n)(hf:Iv prog f caps l tmV p w) :
  Calls prog 173 #[.slice A n cap,.func (.func f) #[] caps] w (Fk (l.any p) w):=by
 have HI:=hd (Afg A n cap l f caps p w h hl hf);clear h hl hf;go_enter func173,ntmps173
 go_wp2_with fail
 refine HI.o.mono ?_
 rintro e w' ⟨r,rfl,hr,hE⟩;have HR:=hd hr;have HE:=hd hE;clear hr hE;go_wp2_with fail
 go_ret
 exact⟨Aa (by rw[<-HR.o]),HE.o⟩
set_option maxRecDepth 100000 in
theorem Afh (A:Option Addr)(n cap:Nat)(l:List Af)(f:FuncId)(caps:Array Value)(p:Af->Bool)(w:World)(h:Ak w A 2 afC l)(hl:l.length=n)(hf:Iv prog f caps l afV p w) :
  Calls prog 132 #[.slice A n cap,.func (.func f) #[] caps] w (Xo (l.any p) w):=by
 have a2:n<=1000000:=by have:=h.1;omega
 have HP:=hd h;have HL:=hd hl;have HF:=hd hf;clear h hl hf;go_enter func132,ntmps132
 go_wp2_with fail
 go_loopw [8] (fun i wr=>∃k:Nat,i=.int .i64 k/\k<=n/\Hd (Ext [] w wr)/\Hd (∀(j:Nat) (x:Af),j<k->l[j]? = some x->p x=false)) (fun i _=>(n-intOf i).toNat)
 case atStart=>exact⟨0,rfl,jQ _,hd (jF _ _),hd fun j x hj=>absurd hj (by omega)⟩
 case round=>
  obtain⟨k,rfl,hk,HE,HN⟩:=hrel;rename World=>wq
  by_cases a6:k<n
  ·obtain⟨b,x,rfl,hx,hc⟩:=(HP.o.keep HE.o).at (i:=k) (by have:=HL.o;omega);obtain⟨x0,x1,x2,x3⟩:=x;have g0:=hc 0 _ rfl;have g1:=hc 1 _ rfl;rw[Nat.add_zero] at g0;have HQ:=hd (HF.o.2 k _ hx wq HE.o);have HX:=hd hx;clear hx hc;go_wp2_with fail
   rw[HF.o.1,Oper.upon_enter];refine HQ.o.mono ?_
   rintro e w' ⟨rfl,hE⟩;have a1:=hd (HE.o.trans hE);clear hE;generalize hp:p _=t;cases t
   ·have HQ:=hd hp;clear hp;go_wp2_with fail
    go_roundw
    case rel=>
     refine⟨k+1,by go_num,by omega,a1,hd fun j x hj hx=>?_⟩
     rcases Nat.lt_or_ge j k with h1|h1
     ·exact HN.o j x h1 hx
     ·have:j=k:=by omega
      subst this;have:=HX.o.symm.trans hx;cases this
      exact HQ.o
    case measure=>simp[intOf];omega
   ·have HQ:=hd hp;clear hp;go_wp2_with fail
    go_ret
    exact⟨_,rfl,by rw[Ii HX.o HQ.o];simp,a1.o⟩
  ·go_wp2_with fail
   go_ret
   exact⟨_,rfl,by rw[Ep HL.o (fun j x hj hx=>HN.o j x (by omega) hx)];rfl,HE.o⟩
theorem Afi (A:Option Addr)(n cap:Nat)(l:List Af)(f:FuncId)(caps:Array Value)(p:Af->Bool)(w:World)(h:Ak w A 2 afC l)(hl:l.length=n)(hf:Iv prog f caps l afV p w) :
  Calls prog 87 #[.slice A n cap,.func (.func f) #[] caps] w (Fk (l.any p) w):=by
 have HI:=hd (Afh A n cap l f caps p w h hl hf);clear h hl hf;go_enter func87,ntmps87
 go_wp2_with fail
 refine HI.o.mono ?_
 rintro e w' ⟨r,rfl,hr,hE⟩;have HR:=hd hr;have HE:=hd hE;clear hr hE;go_wp2_with fail
 go_ret
 exact⟨Aa (by rw[<-HR.o]),HE.o⟩
set_option maxRecDepth 100000 in
theorem Afj (A:Option Addr)(n cap:Nat)(l:List Ex)(f:FuncId)(caps:Array Value)(p:Ex->Bool)(w:World)(h:Ak w A 10 exC l)(hl:l.length=n)(hf:Iv prog f caps l exV p w) :
  Calls prog 177 #[.slice A n cap,.func (.func f) #[] caps] w (Xo (l.any p) w):=by
 have a2:n<=1000000:=by have:=h.1;omega
 have HP:=hd h;have HL:=hd hl;have HF:=hd hf;clear h hl hf;go_enter func177,ntmps177
 go_wp2_with fail
 go_loopw [8] (fun i wr=>∃k:Nat,i=.int .i64 k/\k<=n/\Hd (Ext [] w wr)/\Hd (∀(j:Nat) (x:Ex),j<k->l[j]? = some x->p x=false)) (fun i _=>(n-intOf i).toNat)
 case atStart=>exact⟨0,rfl,jQ _,hd (jF _ _),hd fun j x hj=>absurd hj (by omega)⟩
 case round=>
  obtain⟨k,rfl,hk,HE,HN⟩:=hrel;rename World=>wq
  by_cases a6:k<n
  ·obtain⟨b,x,rfl,hx,hc⟩:=(HP.o.keep HE.o).at (i:=k) (by have:=HL.o;omega);obtain⟨⟨x0,x1,x2,x3,x4,x5,x6,⟨y0,y1,y2,y3⟩,x8,x9⟩,xk⟩:=x;have g0:=hc 0 _ rfl;have g1:=hc 1 _ rfl;have g2:=hc 2 _ rfl;have g3:=hc 3 _ rfl;have g4:=hc 4 _ rfl;have g5:=hc 5 _ rfl;have g6:=hc 6 _ rfl;have g7:=hc 7 _ rfl;have g8:=hc 8 _ rfl;have g9:=hc 9 _ rfl;rw[Nat.add_zero] at g0;have HQ:=hd (HF.o.2 k _ hx wq HE.o);have HX:=hd hx;clear hx hc;go_wp2_with fail
   rw[HF.o.1,Oper.upon_enter];refine HQ.o.mono ?_
   rintro e w' ⟨rfl,hE⟩;have a1:=hd (HE.o.trans hE);clear hE;generalize hp:p _=t;cases t
   ·have HQ:=hd hp;clear hp;go_wp2_with fail
    go_roundw
    case rel=>
     refine⟨k+1,by go_num,by omega,a1,hd fun j x hj hx=>?_⟩
     rcases Nat.lt_or_ge j k with h1|h1
     ·exact HN.o j x h1 hx
     ·have:j=k:=by omega
      subst this;have:=HX.o.symm.trans hx;cases this
      exact HQ.o
    case measure=>simp[intOf];omega
   ·have HQ:=hd hp;clear hp;go_wp2_with fail
    go_ret
    exact⟨_,rfl,by rw[Ii HX.o HQ.o];simp,a1.o⟩
  ·go_wp2_with fail
   go_ret
   exact⟨_,rfl,by rw[Ep HL.o (fun j x hj hx=>HN.o j x (by omega) hx)];rfl,HE.o⟩
theorem Aj4 (A:Option Addr)(n cap:Nat)(l:List Ex)(f:FuncId)(caps:Array Value)(p:Ex->Bool)(w:World)(h:Ak w A 10 exC l)(hl:l.length=n)(hf:Iv prog f caps l exV p w) :
  Calls prog 130 #[.slice A n cap,.func (.func f) #[] caps] w (Fk (l.any p) w):=by
 have HI:=hd (Afj A n cap l f caps p w h hl hf);clear h hl hf;go_enter func130,ntmps130
 go_wp2_with fail
 refine HI.o.mono ?_
 rintro e w' ⟨r,rfl,hr,hE⟩;have HR:=hd hr;have HE:=hd hE;clear hr hE;go_wp2_with fail
 go_ret
 exact⟨Aa (by rw[<-HR.o]),HE.o⟩
theorem Ny:∀(a b:List UInt8),Op.bytesLess a b=true ↔ a<b
 | _,[]=>by simp[Op.bytesLess]
 | [],_ :: _=>by simp[Op.bytesLess]
 | a :: x,b :: y=>by simp[Op.bytesLess,Ny x y,List.cons_lt_cons_iff]
theorem Mm (a b:ByteArray):ltS a b=true ↔ a.toList<b.toList:=Ny _ _
theorem Hg (a b:ByteArray):eqS a b=true ↔ a.toList=b.toList:=by simp[eqS]
theorem Xp (a:ByteArray):eqS a a=true:=(Hg a a).2 rfl
theorem Lk (a b:ByteArray):eqS a b=eqS b a:=by
 rw[Bool.eq_iff_iff,Hg,Hg];exact eq_comm
theorem Oy {a b c:ByteArray}(h:eqS a b=true)(k:eqS b c=true):eqS a c=true:=(Hg _ _).2 (((Hg _ _).1 h).trans ((Hg _ _).1 k))
theorem Afk (a b:ByteArray):(ltS a b||eqS a b) = !ltS b a:=by
 rw[Bool.eq_iff_iff];simp only[Bool.or_eq_true,Mm,Hg,Bool.not_eq_true',<-Bool.not_eq_true,Mm];constructor
 ·rintro(h|h)
  ·exact List.lt_asymm h
  ·rw[h];exact List.lt_irrefl _
 ·intro h;rcases List.le_iff_lt_or_eq.1 (List.not_lt.1 h) with h|h
  ·exact .inl h
  ·exact .inr h
theorem Adg {a b c:ByteArray}(h:ltS a b=true)(k:ltS b c=true):ltS a c=true:=(Mm _ _).2 (List.lt_trans ((Mm _ _).1 h) ((Mm _ _).1 k))
theorem Aj5 {a b:ByteArray}(h:ltS a b=true):eqS a b=false:=by
 rw[<-Bool.not_eq_true,Hg];intro e;have:=(Mm _ _).1 h;rw[e] at this;exact List.lt_irrefl _ this
theorem Rf:∀{l:List (ByteArray×Int)} {j:Nat} {a b:ByteArray×Int},l[j]? = some a->l[j+1]? = some b->ltS a.1 b.1=false->unord l=true
 | [],j,a,b,h,_,_=>by simp at h
 | [x],j,a,b,h,k,_=>by cases j<;>simp at k
 | x :: y :: r,0,a,b,h,k,hl=>by
  simp at h k;subst h;subst k;simp[unord,hl]
 | x :: y :: r,j+1,a,b,h,k,hl=>by
  simp only[List.getElem?_cons_succ] at h k;have:=Rf (l:=y :: r) (j:=j) h (by simpa using k) hl;simp[unord,this]
theorem Nm:∀{l:List (ByteArray×Int)},(∀(j:Nat) (a b:ByteArray×Int),l[j]? = some a->l[j+1]? = some b->ltS a.1 b.1=true)->unord l=false
 | [],_=>rfl
 | [x],_=>rfl
 | x :: y :: r,h=>by
  have h0:=h 0 x y rfl rfl;have:=Nm (l:=y :: r) fun j a b ha hb=>h (j+1) a b (by simpa using ha) (by simpa using hb)
  simp[unord,h0,this]
theorem Rg:∀{l:List (ByteArray×Int)},unord l=false->∀(i j:Nat) (a b:ByteArray×Int),i<j->l[i]? = some a->l[j]? = some b->ltS a.1 b.1=true
 | [],_,i,j,a,b,_,h,_=>by simp at h
 | [x],_,i,j,a,b,hij,h,k=>by
  have:=(ils k).1;simp at this;omega
 | x :: y :: r,hu,i,j,a,b,hij,h,k=>by
  simp only[unord,Bool.or_eq_false_iff,Bool.not_eq_false'] at hu;obtain⟨j,rfl⟩:∃q,j=q+1:=⟨j-1,by omega⟩;rw[List.getElem?_cons_succ] at k;cases i with
  | zero=>
   simp at h;subst h;cases j with
   | zero=>simp at k;subst k;exact hu.1
   | succ j=>exact Adg hu.1 (Rg hu.2 0 (j+1) y b (by omega) rfl k)
  | succ i=>exact Rg hu.2 i j a b (by omega) (by simpa using h) k
theorem Aie {l:List ByteArray}{s:ByteArray}{j:Nat}{x:ByteArray}(h:l[j]? = some x)(he:eqS s x=true):Fy l s=true:=Ii h he
theorem Adh {l:List ByteArray}{s:ByteArray}{n:Nat}(hn:l.length=n)(h:∀(j:Nat) (x:ByteArray),j<n->l[j]? = some x->eqS s x=false):Fy l s=false:=Ep hn h
theorem Rh {vars:List ByteArray}{a:Af}(h:10<a.ts.length):Cn vars a=2:=by unfold Cn;rw[ijp h]
theorem Uk {vars:List ByteArray}{a:Af}(h:¬10<a.ts.length)(h1:bdd a.base=false):Cn vars a=9:=by unfold Cn;rw[ijn h,ijp h1]
theorem Xq {vars:List ByteArray}{a:Af}(h:¬10<a.ts.length)(h1:bdd a.base=true)(h2:a.ts.any Lg=true):Cn vars a=9:=by unfold Cn;rw[ijn h,ijn (by simp[h1]),ijp h2]
theorem Ri {vars:List ByteArray}{a:Af}(h:¬10<a.ts.length)(h1:bdd a.base=true)(h2:a.ts.any Lg=false)(h3:unord a.ts=true):Cn vars a=7:=by unfold Cn;rw[ijn h,ijn (by simp[h1]),ijn (by simp[h2]),ijp h3]
theorem Ul {vars:List ByteArray}{a:Af}(h:¬10<a.ts.length)(h1:bdd a.base=true)(h2:a.ts.any Lg=false)(h3:unord a.ts=false)(h4:a.ts.any (Fh vars)=true):Cn vars a=5:=by unfold Cn;rw[ijn h,ijn (by simp[h1]),ijn (by simp[h2]),ijn (by simp[h3]),ijp h4]
theorem Acd {vars:List ByteArray}{a:Af}(h:¬10<a.ts.length)(h1:bdd a.base=true)(h2:a.ts.any Lg=false)(h3:unord a.ts=false)(h4:a.ts.any (Fh vars)=false):Cn vars a=0:=by unfold Cn;rw[ijn h,ijn (by simp[h1]),ijn (by simp[h2]),ijn (by simp[h3]),ijn (by simp[h4])]
theorem Jo {vars:List ByteArray}{a:Af}(h:Cn vars a=0):a.ts.length<=10/\bdd a.base=true/\a.ts.any Lg=false/\unord a.ts=false/\a.ts.any (Fh vars)=false:=by
 unfold Cn at h;split at h
 ·omega
 rename_i h0
 split at h
 ·omega
 rename_i h1
 split at h
 ·omega
 rename_i h2
 split at h
 ·omega
 rename_i h3
 split at h
 ·omega
 rename_i h4
 exact⟨by omega,by simpa using h1,by simpa using h2,by simpa using h3,by simpa using h4⟩
theorem Adi (e:Ex):1<=Al e:=by cases e;simp[Al]
theorem Nc (a b:List Ex):Ap (a ++ b)=Ap a+Ap b:=by
 induction a with
 | nil=>simp[Ap]
 | cons x a ih=>simp[Ap,ih];omega
theorem Dl {l:List Ex}{j:Nat}{e:Ex}(h:l[j]? = some e):Ap (l.take (j+1))=Ap (l.take j)+Al e:=by
 rw[List.take_add_one,h,Nc];simp[Ap]
theorem Gw {l:List Ex}{j:Nat}:Ap (l.take j)<=Ap l:=by
 have:=Nc (l.take j) (l.drop j);rw[List.take_append_drop] at this;omega
theorem Wd (a b:List Ex):En (a ++ b)=max (En a) (En b):=by
 induction a with
 | nil=>simp[En]
 | cons x a ih=>(simp[En,ih];try omega)
theorem Rj {l:List Ex}{j:Nat}{e:Ex}(h:l[j]? = some e):En (l.take (j+1))=max (En (l.take j)) (Lh e):=by
 rw[List.take_add_one,h,Wd];simp[En]
theorem Afl {l:List Ex}{j:Nat}{e:Ex}(h:l[j]? = some e):Lh e<=En l:=by
 induction l generalizing j with
 | nil=>simp at h
 | cons x l ih=>
  cases j with
  | zero=>simp at h;subst h;simp[En];try omega
  | succ j=>have:=ih (by simpa using h);simp[En];try omega
theorem Afm {l:List Ex}{j:Nat}{e:Ex}(h:l[j]? = some e):Ap (l.take j)+Al e<=Ap l:=by
 rw[<-Dl h];exact Gw
theorem Jp {α:Type}{f:α->Int}{l:List α}{j:Nat}{a:α}(h:l[j]? = some a)(h0:∀(i:Nat) (b:α),i<j->l[i]? = some b->f b=0)(hn:f a≠0):Gb f l=f a:=by
 induction l generalizing j with
 | nil=>simp at h
 | cons x l ih=>
  cases j with
  | zero=>simp at h;subst h;simp[Gb,hn]
  | succ j=>
   have:=h0 0 x (by omega) rfl;simp only[Gb,this,if_pos];exact ih (by simpa using h) fun i b hi hb=>h0 (i+1) b (by omega) (by simpa using hb)
theorem Jq {α:Type}{f:α->Int}{l:List α}{n:Nat}(hn:l.length=n)(h0:∀(i:Nat) (b:α),i<n->l[i]? = some b->f b=0):Gb f l=0:=by
 induction l generalizing n with
 | nil=>rfl
 | cons x l ih=>
  simp at hn;have:=h0 0 x (by omega) rfl;simp only[Gb,this,if_pos];exact ih (n:=l.length) rfl fun i b hi hb=>h0 (i+1) b (by omega) (by simpa using hb)
theorem Nz (vars:List ByteArray)(nb:Nat)(l:List Ex):Ow vars nb l=Gb (Bs vars nb) l:=by
 induction l with
 | nil=>simp[Ow,Gb]
 | cons x l ih=>simp[Ow,Gb,ih]
theorem Ll (a b:List St):Bk (a ++ b)=Bk a+Bk b:=by
 induction a with
 | nil=>simp[Bk]
 | cons x a ih=>simp[Bk,ih];omega
theorem Ia {l:List St}{j:Nat}{e:St}(h:l[j]? = some e):Bk (l.take (j+1))=Bk (l.take j)+Hm e:=by
 rw[List.take_add_one,h,Ll];simp[Bk]
theorem Ql {nb:Nat}{vars:List ByteArray}{l:List St}{before j:Nat}{s:St}(h:l[j]? = some s)(h0:∀(i:Nat) (b:St),i<j->l[i]? = some b->stE nb vars (before+Bk (l.take i)) b=0)(hn:stE nb vars (before+Bk (l.take j)) s≠0):Eo nb vars before l=stE nb vars (before+Bk (l.take j)) s:=by
 induction l generalizing j before with
 | nil=>simp at h
 | cons x l ih=>
  cases j with
  | zero=>simp at h;subst h;simp[Bk] at hn⊢;simp[Eo,hn]
  | succ j=>
   have h1:=h0 0 x (by omega) rfl;simp[Bk] at h1;simp only[Eo,h1,if_pos];have hj:before+Bk ((x :: l).take (j+1))=before+Hm x+Bk (l.take j):=by simp[Bk];omega
   rw[hj] at hn⊢;refine ih (by simpa using h) (fun i b hi hb=>?_) hn
   have:=h0 (i+1) b (by omega) (by simpa using hb);rw[show before+Bk ((x :: l).take (i+1))=before+Hm x+Bk (l.take i) by simp[Bk];omega] at this;exact this
theorem Ace {nb:Nat}{vars:List ByteArray}{l:List St}{before n:Nat}(hn:l.length=n)(h0:∀(i:Nat) (b:St),i<n->l[i]? = some b->stE nb vars (before+Bk (l.take i)) b=0):Eo nb vars before l=0:=by
 induction l generalizing before n with
 | nil=>simp[Eo]
 | cons x l ih=>
  simp at hn;have h1:=h0 0 x (by omega) rfl;simp[Bk] at h1;simp only[Eo,h1,if_pos];refine ih (n:=l.length) rfl fun i b hi hb=>?_
  have:=h0 (i+1) b (by omega) (by simpa using hb);rw[show before+Bk ((x :: l).take (i+1))=before+Hm x+Bk (l.take i) by simp[Bk];omega] at this;exact this
def Ee (n:Nat)(f:Nat->Int):Int:=match n with|0=>0|n+1=>Ee n f+f n
theorem Aac {n:Nat}{f g:Nat->Int}(h:∀k,k<n->f k=g k):Ee n f=Ee n g:=by
 induction n with
 | zero=>rfl
 | succ n ih=>simp only[Ee];rw[ih fun k hk=>h k (by omega),h n (by omega)]
theorem Aad {n:Nat}{f:Nat->Int}(h:∀k,k<n->f k=0):Ee n f=0:=by
 induction n with
 | zero=>rfl
 | succ n ih=>simp only[Ee];rw[ih fun k hk=>h k (by omega),h n (by omega)];rfl
def Oa (c:Nat->Int)(i:Nat)(v:Int)(k:Nat):Int:=if k=i then v else c k
theorem Adj {n i:Nat}{c:Nat->Int}{v:Int}(g:Nat->Int)(hi:i<n)(h0:c i=0):Ee n (fun k=>Oa c i v k*g k)=Ee n (fun k=>c k*g k)+v*g i:=by
 induction n with
 | zero=>omega
 | succ n ih=>
  simp only[Ee];by_cases hn:i=n
  ·subst hn;have h1:Ee i (fun k=>Oa c i v k*g k)=Ee i (fun k=>c k*g k):=Aac fun k hk=>by simp only[Oa];rw[ijn (by omega)]
   have h2:Oa c i v i=v:=by simp[Oa]
   rw[h1,h2,h0];omega
  ·rw[ih (by omega)];have h2:Oa c i v n=c n:=by simp only[Oa];rw[ijn (by omega)]
   rw[h2];omega
def plc (names:List ByteArray)(v:ByteArray):Nat:=names.findIdx fun x=>eqS x v
def Bq (names:List ByteArray)(ts:List (ByteArray×Int)):Nat->Int:=ts.foldl (fun c t=>Oa c (plc names t.1) t.2) fun _=>0
theorem We {names:List ByteArray}{v:ByteArray}(h:Fy names v=true):plc names v<names.length:=by
 unfold plc;rw[List.findIdx_lt_length];obtain⟨x,hx,hv⟩:=List.any_eq_true.1 h;exact⟨x,hx,by rw[Lk];exact hv⟩
theorem Aae {names:List ByteArray}{v:ByteArray}(h:Fy names v=true):∃x,names[plc names v]? = some x/\eqS x v=true:=by
 have hl:=We h;exact⟨_,jJ hl,List.findIdx_getElem (w:=hl)⟩
theorem Aj6 {names:List ByteArray}{u v:ByteArray}(hu:Fy names u=true)(hv:Fy names v=true)(h:eqS u v=false):plc names u≠plc names v:=fun e=>by
 obtain⟨x,hx,h1⟩:=Aae hu;obtain⟨y,hy,h2⟩:=Aae hv;rw[e,hy] at hx;cases hx
 rw[Oy (by rw[Lk];exact h1) h2] at h;cases h
theorem Aj7 {names:List ByteArray}{vals:List Int}{v:ByteArray}(h:Fy names v=true)(hl:vals.length=names.length):lk (names.zip vals) v=(vals[plc names v]?).getD 0:=by
 induction names generalizing vals with
 | nil=>simp[Fy] at h
 | cons x names ih=>
  cases vals with
  | nil=>simp at hl
  | cons y vals=>
   unfold lk plc;rw[List.zip_cons_cons,List.find?_cons,List.findIdx_cons];cases hx:eqS x v
   ·have h':Fy names v=true:=by
     unfold Fy at h⊢;rw[List.any_cons,Bool.or_eq_true] at h;rcases h with h|h
     ·rw[Lk,hx] at h;cases h
     ·exact h
    have:=ih h' (by simpa using hl);unfold lk plc at this;simpa using this
   ·simp
theorem Adk (ts:List (ByteArray×Int))(f:ByteArray×Int->Int)(z:Int):ts.foldl (fun n t=>n+f t) z=z+ts.foldl (fun n t=>n+f t) 0:=by
 induction ts generalizing z with
 | nil=>simp
 | cons t ts ih=>simp only[List.foldl_cons];rw[ih,ih (0+f t)];omega
theorem Rk {α β:Type}(f:β->α->β)(z:β)(l:List α)(x:α):(l ++ [x]).foldl f z=f (l.foldl f z) x:=by simp
theorem Aaf {names:List ByteArray}{ts:List (ByteArray×Int)}{i:Nat}(h:∀t∈ts,plc names t.1≠i):Bq names ts i=0:=by
 unfold Bq;generalize hz:(fun _:Nat=>(0:Int))=z;have h0:z i=0:=by rw[<-hz]
 clear hz
 induction ts generalizing z with
 | nil=>exact h0
 | cons t ts ih=>
  rw[List.foldl_cons];refine ih (fun t ht=>h t (jI _ ht)) _ ?_
  have:=h t (jO ..);simp only[Oa];rw[ijn (by omega)];exact h0
theorem Rl {names:List ByteArray}{ts:List (ByteArray×Int)}{j:Nat}{t:ByteArray×Int}(h:ts[j]? = some t):Bq names (ts.take (j+1))=Oa (Bq names (ts.take j)) (plc names t.1) t.2:=by
 unfold Bq;rw[List.take_add_one,h];simp
theorem Afn {names:List ByteArray}{vals:List Int}{a:Af}(hu:unord a.ts=false)(hs:a.ts.any (Fh names)=false)(hl:vals.length=names.length):evA (names.zip vals) a=a.base+Ee vals.length fun k=>Bq names a.ts k*(vals[k]?).getD 0:=by
 have a1:∀t∈a.ts,Fy names t.1=true:=fun t ht=>by
  have:=List.any_eq_false.1 hs t ht;simpa[Fh] using this
 have hd:∀(i j:Nat) (x y:ByteArray×Int),i<j->a.ts[i]? = some x->a.ts[j]? = some y->ltS x.1 y.1=true:=Rg hu;unfold evA;rw[Adk];congr 1
 clear hu hs;generalize a.ts=ts at *
 have key:∀m,m<=ts.length->(ts.take m).foldl (fun n t=>n+t.2*lk (names.zip vals) t.1) 0=Ee vals.length fun k=>Bq names (ts.take m) k*(vals[k]?).getD 0:=by
  intro m
  induction m with
  | zero=>intro _;simp[Bq];exact(Aad fun k _=>by simp).symm
  | succ m ih=>
   intro hm;have hx:ts[m]? = some (ts[m]'(by omega)):=jJ (by omega);generalize ts[m]'(by omega)=t at hx;have ht:Fy names t.1=true:=a1 t (ilm hx);rw[Rl hx];rw[show ts.take (m+1)=ts.take m ++ [t] by rw[List.take_add_one,hx];rfl,Rk,ih (by omega)];rw[Adj (fun k=>(vals[k]?).getD 0) (by rw[hl];exact We ht) (Aaf fun u hu=>?_),Aj7 ht hl];obtain⟨i,hi⟩:=List.mem_iff_getElem?.1 hu
   have a2:i<m:=by
    have:=(ils hi).1;simp at this;omega
   rw[List.getElem?_take,ijp a2] at hi;exact Aj6 (a1 u (ilm hi)) ht (Aj5 (hd i m u t a2 hi hx))
 have:=key ts.length (jD _);rwa [List.take_length] at this
theorem Jr {α:Type}{l:List α}{j:Nat}{x:α}(h:l[j]? = some x):l.take (j+1)=l.take j ++ [x]:=by rw[List.take_add_one,h];rfl
theorem Ob (env:Env)(a b:List St):Av env (a ++ b)=Av env a+Av env b:=by
 induction a with
 | nil=>simp[Av]
 | cons x a ih=>simp[Av,ih];omega
theorem Dp {env:Env}{l:List St}{j:Nat}{s:St}(h:l[j]? = some s):Av env (l.take (j+1))=Av env (l.take j)+Jd env s:=by
 rw[Jr h,Ob];simp[Av]
theorem Oc {env:Env}{l:List St}{j:Nat}:Av env (l.take j)<=Av env l:=by
 have:=Ob env (l.take j) (l.drop j);rw[List.take_append_drop] at this;omega
theorem Afo (env:Env)(s:St):1<=Jd env s:=by cases s;simp[Jd]
def Gp (n:Nat)(f:Nat->Nat):Nat:=((List.range n).map f).sum
theorem Ib (f:Nat->Nat):Gp 0 f=0:=rfl
theorem Da (n:Nat)(f:Nat->Nat):Gp (n+1) f=Gp n f+f n:=by unfold Gp;rw[List.range_succ];simp
theorem Mn {n m:Nat}(f:Nat->Nat)(h:n<=m):Gp n f<=Gp m f:=by
 induction m with
 | zero=>
      have:n=0:=by omega
      subst this;exact jD _
 | succ m ih=>
  by_cases e:n=m+1
  ·subst e;exact jD _
  ·rw[Da];have:=ih (by omega);omega
theorem Js (n:Nat)(f:Nat->Nat):Gp n (fun k=>1+f k)=n+Gp n f:=by
 induction n with
 | zero=>rfl
 | succ n ih=>rw[Da,Da,ih];omega
theorem Kl {env:Env}{h:SH}{b:List St}(hk:h.k=3):Jd env (.mk h b)=1:=by rw[Jd,ijp hk]
theorem Gx {env:Env}{h:SH}{b:List St}(hk:h.k=2):Jd env (.mk h b)=1+if Ec env h then Av env b else 0:=by rw[Jd,ijn (by omega),ijp hk]
theorem Rm {env:Env}{h:SH}{b:List St}(hk:h.k=1)(hv:h.vec=true):Jd env (.mk h b)=1+Ar h*(1+b.length):=by rw[Jd,ijn (by omega),ijn (by omega),ijp hv]
theorem Lm {env:Env}{h:SH}{b:List St}(hk:h.k=1)(hv:h.vec=false):Jd env (.mk h b)=1+(Ar h+Gp (Ar h) fun k=>Av (Bh env h k) b):=by
 rw[Jd,ijn (by omega),ijn (by omega),ijn (by simp[hv]),<-Js];rfl
theorem Ln (a b:List St):Ab (a ++ b)=Ab a+Ab b:=by
 induction a with
 | nil=>simp[Ab]
 | cons x a ih=>simp[Ab,ih];omega
theorem Hs {l:List St}{j:Nat}{s:St}(h:l[j]? = some s):Ab (l.take (j+1))=Ab (l.take j)+Be s:=by
 rw[Jr h,Ln];simp[Ab]
theorem Km {l:List St}{j:Nat}{s:St}(h:l[j]? = some s):Ab (l.take j)+Be s<=Ab l:=by
 rw[<-Hs h];have:=Ln (l.take (j+1)) (l.drop (j+1));rw[List.take_append_drop] at this;omega
theorem Kn (env:Env)(no:Nat)(a b:List St):Au env no (a ++ b)=Au env no a ++ Au env (no+Ab a) b:=by
 induction a generalizing no with
 | nil=>simp[Au,Ab]
 | cons x a ih=>simp[Au,Ab,ih,Nat.add_assoc]
theorem Ko {env:Env}{no:Nat}{l:List St}{j:Nat}{s:St}(h:l[j]? = some s):Au env no (l.take (j+1))=Au env no (l.take j) ++ Cv env (no+Ab (l.take j)) s:=by
 rw[Jr h,Kn];simp[Au]
def Ef {α:Type}(n:Nat)(f:Nat->List α):List α:=((List.range n).map f).flatten
theorem Jt {α:Type}(f:Nat->List α):Ef 0 f=[]:=rfl
theorem Ei {α:Type}(n:Nat)(f:Nat->List α):Ef (n+1) f=Ef n f ++ f n:=by unfold Ef;rw[List.range_succ];simp
theorem Hk {env:Env}{no:Nat}{h:SH}{b:List St}(hk:h.k=3):Cv env no (.mk h b)=[⟨no,h,env⟩]:=by rw[Cv,ijp hk]
theorem Ij {env:Env}{no:Nat}{h:SH}{b:List St}(hk:h.k=2):Cv env no (.mk h b)=if Ec env h then Au env no b else []:=by rw[Cv,ijn (by omega),ijp hk]
theorem Ju {env:Env}{no:Nat}{h:SH}{b:List St}(hk:h.k=1)(hv:h.vec=true):Cv env no (.mk h b)=Ct env h no b:=by rw[Cv,ijn (by omega),ijn (by omega),ijp hv]
theorem Jv {env:Env}{no:Nat}{h:SH}{b:List St}(hk:h.k=1)(hv:h.vec=false):Cv env no (.mk h b)=Ef (Ar h) fun k=>Au (Bh env h k) no b:=by
 rw[Cv,ijn (by omega),ijn (by omega),ijn (by simp[hv])];rfl
def Fz (env:Env)(h:SH)(no:Nat)(s:St)(n:Nat):List Az:=(List.range n).map fun k=>⟨no,s.h,Bh env h k⟩
theorem Mo (env:Env)(h:SH)(no:Nat)(s:St):Fz env h no s 0=[]:=rfl
theorem Jw (env:Env)(h:SH)(no:Nat)(s:St)(n:Nat):Fz env h no s (n+1)=Fz env h no s n ++ [⟨no,s.h,Bh env h n⟩]:=by unfold Fz;rw[List.range_succ];simp
theorem Lo (env:Env)(h:SH)(no:Nat)(a b:List St):Ct env h no (a ++ b)=Ct env h no a ++ Ct env h (no+a.length) b:=by
 induction a generalizing no with
 | nil=>simp[Ct]
 | cons x a ih=>simp[Ct,ih,Nat.add_assoc,Nat.add_comm 1]
theorem Mp {env:Env}{h:SH}{no:Nat}{l:List St}{j:Nat}{s:St}(hj:l[j]? = some s):Ct env h no (l.take (j+1))=Ct env h no (l.take j) ++ Fz env h (no+j) s (Ar h):=by
 have hl:=(ils hj).1;rw[Jr hj,Lo];simp[Ct,Fz,Nat.min_eq_left (Nat.le_of_lt hl)]
theorem Od {h:SH}{k:Nat}(hs:1<=h.step):Dj h k<h.hi ↔ k<Ar h:=by
 unfold Ar Dj;split
 ·rename_i h0
  have:0<=(k:Int)*h.step:=Int.mul_nonneg (by omega) (by omega);constructor<;>intro<;>omega
 ·rename_i h0
  have h1:(k:Int)+1<=(h.hi-h.lo+h.step-1) / h.step ↔ ((k:Int)+1)*h.step<=h.hi-h.lo+h.step-1:=Int.le_ediv_iff_mul_le (by omega);have h2:((k:Int)+1)*h.step=k*h.step+h.step:=by rw[Int.add_mul];omega
  rw[h2] at h1;have h3:0<=(h.hi-h.lo+h.step-1) / h.step:=Int.ediv_nonneg (by omega) (by omega);constructor
  ·intro h4;have:=h1.2 (by omega);omega
  ·intro h4;have:=h1.1 (by omega);omega
theorem Oz (h:SH)(k:Nat):Dj h k+h.step=Dj h (k+1):=by
 unfold Dj;rw[Int.natCast_add,Int.add_mul];omega
theorem Pr {α:Type}{f:α->Int}{l:List α}(h:Gb f l=0):∀a∈l,f a=0:=by
 induction l with
 | nil=>intro a ha;cases ha
 | cons x l ih=>
  simp only[Gb] at h;split at h
  ·rename_i h0
   intro a ha;rcases jE.1 ha with rfl|ha
   ·exact h0
   ·exact ih h a ha
  ·rename_i h0;exact absurd h h0
theorem Nn {vars:List ByteArray}{nb:Nat}{h:EH}{n:Nat}(hx:Fj vars nb h n=0):0<=Bp h.k h.op/\Hi h n=true/\Fi h=true/\Afa nb h=false/\Cn vars h.at_=0:=by
 unfold Fj at hx;split at hx
 ·omega
 rename_i h0
 split at hx
 ·omega
 rename_i h1
 split at hx
 ·omega
 rename_i h2
 split at hx
 ·omega
 rename_i h3
 exact⟨by omega,by simpa using h1,by simpa using h2,by simpa using h3,hx⟩
theorem Kp {vars:List ByteArray}{nb:Nat}{h:EH}{ks:List Ex}(hx:Bs vars nb (.mk h ks)=0):Fj vars nb h ks.length=0/\∀e∈ks,Bs vars nb e=0:=by
 rw[Bs] at hx;split at hx
 ·rename_i h0
  rw[Nz] at hx;exact⟨h0,Pr hx⟩
 ·rename_i h0;exact absurd hx h0
theorem Kq {k op:Int}(h:0<=Bp k op):k=1\/k=2\/k=3\/k=4\/k=5:=by
 unfold Bp at h;split at h
 ·omega
 split at h
 ·omega
 split at h
 ·omega
 split at h
 ·omega
 split at h
 ·omega
 ·omega
inductive Fd (nb:Nat):List ByteArray->St->Prop
 | loop (vars:List ByteArray) (h:SH) (b:List St) (hk:h.k=1) (hn:Cy h.var=true) (hv:Fy vars h.var=false) (hl:vars.length<8)
   (h1 : -100000<=h.lo/\h.lo<=100000) (h2 : -100000<=h.hi/\h.hi<=100000) (h3:1<=h.step/\h.step<=100000) (h4:h.vec=true->∀s∈b,s.h.k=3)
   (hs:∀s∈b,Fd nb (vars ++ [h.var]) s):Fd nb vars (.mk h b)
 | when (vars:List ByteArray) (h:SH) (b:List St) (hk:h.k=2) (hv:h.vec=false) (hc:∀a∈h.conds,Cn vars a=0) (hl:1<=h.conds.length/\h.conds.length<=4)
   (hs:∀s∈b,Fd nb vars s):Fd nb vars (.mk h b)
 | store (vars:List ByteArray) (h:SH) (hk:h.k=3) (hv:h.vec=false) (hb:0<=h.buf/\h.buf<nb) (ha:Cn vars h.at_=0) (hx:Bs vars nb h.val=0) (hf:Jm 0 1 h.val=true):Fd nb vars (.mk h [])
theorem Ik {vars:List ByteArray}{nb before:Nat}{h:SH}{b:List St}(he:Ff vars nb before h b=0):before<3000/\¬(h.k=1/\8<=vars.length)/\(1<=h.k/\h.k<=3)/\Ga h b.length=false/\Eb vars nb h b=0:=by
 unfold Ff at he;split at he
 ·omega
 rename_i h0
 split at he
 ·omega
 rename_i h1
 split at he
 ·omega
 rename_i h2
 exact⟨by omega,fun h=>h0 (.inr h),Bu.1 (by simpa using h1),by simpa using h2,he⟩
theorem Um {nb:Nat}{vars:List ByteArray}{l:List St}{before:Nat}(h:Eo nb vars before l=0):∀(j:Nat) (s:St),l[j]? = some s->stE nb vars (before+Bk (l.take j)) s=0:=by
 induction l generalizing before with
 | nil=>intro j s hs;simp at hs
 | cons x l ih=>
  simp only[Eo] at h;split at h
  ·rename_i h0
   intro j s hs;cases j with
   | zero=>simp at hs;subst hs;simpa[Bk] using h0
   | succ j=>
    have:=ih h j s (by simpa using hs);rw[show before+Bk ((x :: l).take (j+1))=before+Hm x+Bk (l.take j) by simp[Bk];omega];exact this
  ·rename_i h0;exact absurd h h0
theorem Xr {nb:Nat}{vars:List ByteArray}{before:Nat}{h:SH}{b:List St}(he:stE nb vars before (.mk h b)=0):Ff vars nb before h b=0/\Eo nb (Aw vars h) (before+1) b=0:=by
 rw[stE] at he;split at he
 ·rename_i h0;exact⟨h0,he⟩
 ·rename_i h0;exact absurd he h0
theorem Ak1 (nb:Nat):∀(s:St) (vars:List ByteArray) (before:Nat),stE nb vars before s=0->Fd nb vars s:=by
 intro s;refine Dn (P:=fun s=>∀(vars:List ByteArray) (before:Nat),stE nb vars before s=0->Fd nb vars s) ?_ s
 intro h b ih vars before he;obtain⟨h1,h2⟩:=Xr he;obtain⟨a1,a2,a3,a4,a5⟩:=Ik h1
 have hb:∀s∈b,Fd nb (Aw vars h) s:=fun s hs=>by
  obtain⟨j,hj⟩:=List.mem_iff_getElem?.1 hs;exact ih s hs _ _ (Um h2 j s hj)
 unfold Eb at a5;unfold Ga at a4;by_cases k1:h.k=1
 ·rw[ijp k1] at a5 a4;rw[show Aw vars h=vars ++ [h.var] by unfold Aw;rw[ijp k1]] at hb;split at a5
  ·omega
  rename_i b1
  split at a5
  ·omega
  rename_i b2
  split at a5
  ·omega
  rename_i b3
  split at a5
  ·omega
  rename_i b4
  simp only[not_or,Bool.not_eq_false,bdd,Bu] at b3;refine .loop vars h b k1 (by simpa using b1) (by simpa using b2) (by omega) b3.1 b3.2.1 b3.2.2 (fun hv s hs=>?_) hb
  have h5:b.any Hr=false:=by
   cases h6:b.any Hr
   ·rfl
   ·exact absurd ⟨hv,h6⟩ b4
  have:=List.any_eq_false.1 h5 s hs;simpa[Hr] using this
 ·rw[ijn k1] at a5 a4;rw[show Aw vars h=vars by unfold Aw;rw[ijn k1]] at hb;by_cases k2:h.k=2
  ·rw[ijp k2] at a5 a4;split at a5
   ·omega
   rename_i b1
   have:=Bu.1 (by simpa using b1);refine .when vars h b k2 ?_ (Pr a5) (by omega) hb
   have:Gr h=false:=by revert a4;cases Gr h<;>simp
   unfold Gr at this;revert this;cases h.vec<;>simp
  ·rw[ijn k2] at a5 a4
   have a6:b=[]:=by
    cases b with
    | nil=>rfl
    | cons x b=>simp at a4
   have hl:Gr h=false:=by revert a4;cases Gr h<;>simp
   subst a6;split at a5
   ·omega
   rename_i b1
   split at a5
   ·rename_i b2
    split at a5
    ·rename_i b3
     have:=Bu.1 (by simpa using b1);refine .store vars h (by omega) ?_ (by omega) b2 a5 b3
     unfold Gr at hl;revert hl;cases h.vec<;>simp
    ·omega
   ·rename_i b2;exact absurd a5 b2
theorem Aj8 {nb:Nat}{vars:List ByteArray}{before:Nat}{l:List St}(h:Eo nb vars before l=0):∀s∈l,Fd nb vars s:=fun s hs=>by
 obtain⟨j,hj⟩:=List.mem_iff_getElem?.1 hs;exact Ak1 nb s _ _ (Um h j s hj)
theorem Adl (l:Nat):((l:Int)==0)=decide (l=0):=by
 by_cases h:l=0
 ·simp[h]
 ·have:(l:Int)≠0:=by omega
  simp[h,this]
theorem Kr (x:Int)(w:World):Calls prog 141 #[x] w fun e w'=>e=.returned (.bool (Dt x))/\w=w':=by
 by_cases h1:x < -2147483648
 ·have h2:decide (x < -2147483648)=true:=by simpa using h1
  go_enter func141,ntmps141
  go_wp2
  go_ret
  exact⟨Aa (by simp[Dt,btw];omega),rfl⟩
 ·have h2:decide (x < -2147483648)=false:=by simpa using h1
  go_enter func141,ntmps141
  go_wp2
  go_ret
  exact⟨Aa (by
            have:decide (-2147483648<=x)=true:=by simp;omega
            simp only[Dt,btw,this,Bool.true_and]),rfl⟩
theorem Dz (x:Int)(w:World):Calls prog 217 #[x] w fun e w'=>e=.returned (.bool (bdd x))/\w=w':=by
 by_cases h1:x < -100000
 ·have h2:decide (x < -100000)=true:=by simpa using h1
  go_enter func217,ntmps217
  go_wp2
  go_ret
  exact⟨Aa (by simp[bdd,btw];omega),rfl⟩
 ·have h2:decide (x < -100000)=false:=by simpa using h1
  go_enter func217,ntmps217
  go_wp2
  go_ret
  exact⟨Aa (by
            have:decide (-100000<=x)=true:=by simp;omega
            simp only[bdd,btw,this,Bool.true_and]),rfl⟩
theorem Lp (b:Int)(A:Option Addr)(l c:Nat)(w:World):Calls prog 229 #[.agg #[b,.slice A l c]] w fun e w'=>e=.returned (.bool (decide (b=0)&&decide (l=0)))/\Ext [] w w':=by
 by_cases h:b=0
 ·have h2:(b==0)=true:=by simpa using h
  go_enter func229,ntmps229
  go_wp2_with fail
  go_ret
  exact⟨Aa (by simp[h,Adl]),by first|exact jF _ _|exact(jF _ _).alloc _⟩
 ·have h2:(b==0)=false:=by simpa using h
  go_enter func229,ntmps229
  go_wp2_with fail
  go_ret
  exact⟨Aa (by simp[h,Adl]),by first|exact jF _ _|exact(jF _ _).alloc _⟩
theorem Oe (h:EH)(n:Nat)(w:World):Calls prog 230 #[Gt h n] w fun e w'=>e=.returned (.bool (Lb h n))/\Ext [] w w':=by
 obtain⟨x0,x1,x2,x3,x4,x5,x6,⟨y0,y1,y2,y3⟩,x8,x9⟩:=h;dsimp only[Gt];go_enter func230,ntmps230
 go_wp2_with fail
 ·refine(Lp _ _ _ _ _).mono ?_
  rintro e w' ⟨rfl,hE⟩;generalize hz:(decide (y0=0)&&decide (y3.length=0))=zb;have HZ:=hd hz;have HE:=hd (((jF _ _).alloc _).trans hE);have q8:=((jK w 41 _).ext hE (by simp)).cell;clear hz hE;cases zb
  all_goals (go_wp2_with fail)
  all_goals
   go_ret
   have hz:=HZ.o;exact⟨Aa (by simp_all [Lb,El,Adl]),HE.o⟩
 all_goals (go_ret;refine⟨Aa ?_,(jF _ _).alloc _⟩;simp_all [Lb,El,Adl])
theorem Aag (h:EH)(n:Nat)(w:World):Calls prog 231 #[Gt h n] w fun e w'=>e=.returned (.int .i64 (Bp h.k h.op))/\Ext [] w w':=by
 obtain⟨x0,x1,x2,x3,x4,x5,x6,⟨y0,y1,y2,y3⟩,x8,x9⟩:=h;dsimp only[Gt];go_enter func231,ntmps231
 go_wp2_with fail
 all_goals (go_ret;refine⟨Ae ?_,(jF _ _).alloc _⟩;simp_all [Bp,opN,btw];try omega)
theorem Tt (h:EH)(n:Nat)(w:World):Calls prog 233 #[Gt h n] w fun e w'=>e=.returned (.bool (Fi h))/\Ext [] w w':=by
 obtain⟨x0,x1,x2,x3,x4,x5,x6,⟨y0,y1,y2,y3⟩,x8,x9⟩:=h;dsimp only[Gt];go_enter func233,ntmps233
 go_wp2_with (go_at_call 141;refine(Kr _ _).mono ?_;rintro e w' ⟨rfl,rfl⟩;generalize hz:Dt _=zb;have HZ:=hd hz;clear hz;cases zb)
 all_goals (go_ret;refine⟨Aa ?_,(jF _ _).alloc _⟩;simp_all [Fi,btw,Ak0];try omega)
set_option maxRecDepth 100000 in
theorem Aah (A:Option Addr)(n cap:Nat)(l:List ByteArray)(s:ByteArray)(w:World)(h:Ak w A 1 sC l)(hl:l.length=n) :
  Calls prog 171 #[.slice A n cap,.string s] w (Xo (Fy l s) w):=by
 have a1:n<=1000000:=by have:=h.1;omega
 have HP:=hd h;have HL:=hd hl;clear h hl;go_enter func171,ntmps171
 go_wp2_with fail
 go_loopw [8] (fun i wr=>∃k:Nat,i=.int .i64 k/\k<=n/\Hd (Ext [] w wr)/\Hd (∀(j:Nat) (x:ByteArray),j<k->l[j]? = some x->eqS s x=false)) (fun i _=>(n-intOf i).toNat)
 case atStart=>exact⟨0,rfl,jQ _,hd (jF _ _),hd fun j x hj=>absurd hj (by omega)⟩
 case round=>
  obtain⟨k,rfl,hk,HE,HN⟩:=hrel;rename World=>wq
  by_cases a2:k<n
  ·obtain⟨b,x,rfl,hx,hc⟩:=(HP.o.keep HE.o).at (i:=k) (by have:=HL.o;omega);have g0:=hc 0 _ rfl;rw[Nat.add_zero,Nat.mul_one] at g0;have HX:=hd hx;clear hx hc;cases hp:eqS s x
   ·have HQ:=hd hp;have hp':(s.toList==x.toList)=false:=hp;clear hp;go_wp2_with fail
    go_roundw
    case rel=>
     refine⟨k+1,by go_num,by omega,HE,hd fun j x hj hx=>?_⟩
     rcases Nat.lt_or_ge j k with h1|h1
     ·exact HN.o j x h1 hx
     ·have:j=k:=by omega
      subst this;have:=HX.o.symm.trans hx;cases this
      exact HQ.o
    case measure=>simp[intOf];omega
   ·have HQ:=hd hp;have hp':(s.toList==x.toList)=true:=hp;clear hp;go_wp2_with fail
    go_ret
    exact⟨_,rfl,by rw[Aie HX.o HQ.o];simp,HE.o⟩
  ·go_wp2_with fail
   go_ret
   exact⟨_,rfl,by rw[Adh HL.o (fun j x hj hx=>HN.o j x (by omega) hx)];rfl,HE.o⟩
theorem Of (A:Option Addr)(n cap:Nat)(l:List ByteArray)(s:ByteArray)(w:World)(h:Ak w A 1 sC l)(hl:l.length=n) :
  Calls prog 124 #[.slice A n cap,.string s] w (Fk (Fy l s) w):=by
 have HI:=hd (Aah A n cap l s w h hl);clear h hl;go_enter func124,ntmps124
 go_wp2_with fail
 refine HI.o.mono ?_
 rintro e w' ⟨r,rfl,hr,hE⟩;have HR:=hd hr;have HE:=hd hE;clear hr hE;go_wp2_with fail
 go_ret
 exact⟨Aa (by rw[<-HR.o]),HE.o⟩
def My (x:Int)(w:World)(e:Ending)(w':World):Prop:=e=.returned (.int .i64 x)/\Ext [] w w'
set_option maxRecDepth 100000 in
theorem No (a:Af)(VA:Option Addr)(vn vc:Nat)(vars:List ByteArray)(w:World)(ha:Jn w a)(hv:Ak w VA 1 sC vars)(hvn:vars.length=vn) :
  Calls prog 219 #[afV a,.slice VA vn vc] w (My (Cn vars a) w):=by
 obtain⟨base,tA,tc,ts⟩:=a;generalize ht:ts.length=n;have ag:n<=1000000:=by have:=ha.1;simp only at this;omega
 have HA:Hd (Ak w tA 2 tmC ts):=hd ha;have HV:=hd hv;have HT:=hd ht;have ad:=hd hvn;clear ha hv hvn;unfold afV;simp only[ht];clear ht;by_cases h0:10<n
 ·have HR:=hd (Rh (vars:=vars) (a:=⟨base,tA,tc,ts⟩) (by rw[HT.o];exact h0));go_enter func219,ntmps219
  go_wp2_with fail
  go_ret
  exact⟨Ae HR.o.symm,by first|exact jF _ _|exact(jF _ _).alloc _⟩
 ·have H0:Hd (¬10<(⟨base,tA,tc,ts⟩:Af).ts.length):=hd (by rw[HT.o];exact h0);cases hb:bdd base
  ·have HR:=hd (Uk (vars:=vars) H0.o hb);have HB:=hd hb;clear hb;go_enter func219,ntmps219
   go_wp2_with fail
   refine(Dz _ _).mono ?_
   rintro e w' ⟨rfl,rfl⟩;rw[HB.o];go_wp2_with fail
   go_ret
   exact⟨Ae HR.o.symm,by first|exact jF _ _|exact(jF _ _).alloc _⟩
  ·have HB:=hd hb;clear hb;go_enter func219,ntmps219
   go_wp2_with fail
   refine(Dz _ _).mono ?_
   rintro e w' ⟨rfl,rfl⟩;rw[HB.o];go_wp2_with fail
   have a1:=hd ((jF [] w).alloc (.cells #[base,.slice tA n tc] 38));have a6:=hd (jK w 38 #[base,.slice tA n tc]);generalize World.alloc w _=w0 at *;generalize w.heap.size=s at *;go_loopw [22] (fun i wr=>∃k:Nat,i=.int .i64 k/\k<=n/\Hd (Ext [] w0 wr)/\Hd (∀(j:Nat) (x:ByteArray×Int),j<k->ts[j]? = some x->Lg x=false)) (fun i _=>(n-intOf i).toNat)
   case atStart=>exact⟨0,rfl,jQ _,hd (jF _ _),hd fun j x hj=>absurd hj (by omega)⟩
   case round=>
    obtain⟨k,rfl,hk,HE,HN⟩:=hrel;rename World=>wq
    by_cases ac:k<n
    ·obtain⟨b,⟨x0,x1⟩,rfl,hx,hc⟩:=((HA.o.keep a1.o).keep HE.o).at (i:=k) (by have:=HT.o;omega);have g0:=hc 0 _ rfl;have g1:=hc 1 _ rfl;rw[Nat.add_zero] at g0;have HX:=hd hx;clear hx hc;have a2:=hd (HE.o.alloc (.cells #[.string x0,x1] 178));go_wp2_with fail
     refine(Dz _ _).mono ?_
     rintro e w' ⟨rfl,rfl⟩;cases hp:Lg (x0,x1)
     ·have a8:bdd x1=true:=by
       simp[Lg] at hp;exact hp.1
      have ah:(x1==0)=false:=by
       simp[Lg] at hp;simpa using hp.2
      have HQ:=hd hp;rw[a8];clear hp a8;go_wp2_with fail
      go_roundw
      case rel=>
       refine⟨k+1,by go_num,by omega,a2,hd fun j x hj hx=>?_⟩
       rcases Nat.lt_or_ge j k with h1|h1
       ·exact HN.o j x h1 hx
       ·have:j=k:=by omega
        subst this;have:=HX.o.symm.trans hx;cases this
        exact HQ.o
      case measure=>simp[intOf];omega
     ·have HR:Hd (Cn vars ⟨base,some b,tc,ts⟩=9):=hd (Xq (vars:=vars) H0.o HB.o (Ii HX.o hp))
      have hq:bdd x1=false\/bdd x1=true/\x1=0:=by
       cases hb:bdd x1
       ·exact .inl rfl
       ·simp[Lg,hb] at hp;exact .inr ⟨rfl,hp⟩
      clear hp;rcases hq with hq|⟨hq,rfl⟩
      all_goals
       rw[hq];clear hq;go_wp2_with fail
       go_ret
       exact⟨Ae HR.o.symm,a1.o.trans a2.o⟩
    ·have H2:=hd (Ep HT.o (fun j x hj hx=>HN.o j x (by omega) hx));have a7:=HE;have qb:=(a6.o.ext HE.o (by simp)).cell;have ql:=(a6.o.ext HE.o (by simp)).lt;clear HN;go_wp2_with fail
     clear qb ql;go_loopw [39] (fun i wr=>∃k:Nat,i=.int .i64 k/\k<=n/\Hd (Ext [] w0 wr)/\Hd (∀(j:Nat) (x y:ByteArray×Int),j+1<k->ts[j]? = some x->ts[j+1]? = some y->ltS x.1 y.1=true)) (fun i _=>(n-intOf i).toNat)
     case atStart=>exact⟨0,rfl,jQ _,a7,hd fun j x y hj=>absurd hj (by omega)⟩
     case round=>
      obtain⟨k,rfl,hk,HE,HN⟩:=hrel;clear a7;rename World=>wz
      by_cases ac:k<n
      ·obtain⟨b,⟨x0,x1⟩,rfl,hx,hc⟩:=((HA.o.keep a1.o).keep HE.o).at (i:=k) (by have:=HT.o;omega);have g0:=hc 0 _ rfl;have g1:=hc 1 _ rfl;rw[Nat.add_zero] at g0;have HX:=hd hx;have qb:=(a6.o.ext HE.o (by simp)).cell;have ql:=(a6.o.ext HE.o (by simp)).lt;have a2:=hd (HE.o.alloc (.cells #[.string x0,x1] 178));cases k with
       | zero=>
        clear hx hc;go_wp2_with fail
        go_quiet (fail)
        go_wp2_with fail
        go_roundw
        case rel=>exact⟨1,by go_num,by omega,hd (a2.o.drewN _),hd fun j x y hj=>absurd hj (by omega)⟩
        case measure=>simp[intOf];omega
       | succ q=>
        obtain⟨b',⟨y0,y1⟩,af,hy,ab⟩:=((HA.o.keep a1.o).keep HE.o).at (i:=q) (by have:=HT.o;omega);cases af
        have e0:=ab 0 _ rfl;rw[Nat.add_zero] at e0;have HY:=hd hy;have ae:=jB wz _ g0;simp only at ae;have ai:(q:Int)<(n:Int):=by omega
        have aj:IntKind.i64.wrap (q:Int)=q:=by rw[IntKind.wrap_i64];omega
        clear hx hc hy ab;go_wp2_with fail
        cases hp:ltS y0 x0
        ·have hp':Op.bytesLess y0.toList x0.toList=false:=hp;have HR:Hd (Cn vars ⟨base,some b,tc,ts⟩=7):=hd (Ri H0.o HB.o H2.o (Rf HY.o HX.o hp));clear hp;go_quiet (fail)
         go_wp2_with fail
         go_ret
         exact⟨Ae HR.o.symm,a1.o.trans (a2.o.drewN _)⟩
        ·have hp':Op.bytesLess y0.toList x0.toList=true:=hp;have HQ:=hd hp;clear hp;go_quiet (fail)
         go_wp2_with fail
         go_roundw
         case rel=>
          refine⟨q+1+1,by go_num,by omega,hd (a2.o.drewN _),hd fun j x y hj hx hy=>?_⟩
          rcases Nat.lt_or_ge j q with h1|h1
          ·exact HN.o j x y (by omega) hx hy
          ·have:j=q:=by omega
           subst this;have h3:=HY.o.symm.trans hx;have h4:=HX.o.symm.trans hy;cases h3;cases h4
           exact HQ.o
         case measure=>simp[intOf];omega
      ·have H3:Hd (unord ts=false):=hd (Nm fun j x y hx hy=>HN.o j x y (by have:=(ils hy).1;have:=HT.o;omega) hx hy);have a7:=HE;have qb:=(a6.o.ext HE.o (by simp)).cell;have ql:=(a6.o.ext HE.o (by simp)).lt;clear HN;go_wp2_with fail
       clear qb ql;go_loopw [62] (fun i wr=>∃k:Nat,i=.int .i64 k/\k<=n/\Hd (Ext [] w0 wr)/\Hd (∀(j:Nat) (x:ByteArray×Int),j<k->ts[j]? = some x->Fh vars x=false)) (fun i _=>(n-intOf i).toNat)
       case atStart=>exact⟨0,rfl,jQ _,a7,hd fun j x hj=>absurd hj (by omega)⟩
       case round=>
        obtain⟨k,rfl,hk,HE,HN⟩:=hrel;clear a7;rename World=>wv
        by_cases ac:k<n
        ·obtain⟨b,⟨x0,x1⟩,rfl,hx,hc⟩:=((HA.o.keep a1.o).keep HE.o).at (i:=k) (by have:=HT.o;omega);have g0:=hc 0 _ rfl;have g1:=hc 1 _ rfl;rw[Nat.add_zero] at g0;have HX:=hd hx;clear hx hc;have a2:=hd (HE.o.alloc (.cells #[.string x0,x1] 178));go_wp2_with fail
         refine(Of VA vn vc vars x0 _ ((HV.o.keep a1.o).keep a2.o) ad.o).mono ?_
         rintro e w' ⟨rfl,hE⟩;have aa:=hd (a2.o.trans hE);clear hE;cases hp:Fy vars x0
         ·have HR:Hd (Cn vars ⟨base,some b,tc,ts⟩=5):=hd (Ul H0.o HB.o H2.o H3.o (Ii HX.o (by simp[Fh,hp])));clear hp;go_wp2_with fail
          go_ret
          exact⟨Ae HR.o.symm,a1.o.trans aa.o⟩
         ·have HQ:=hd hp;clear hp;go_wp2_with fail
          go_roundw
          case rel=>
           refine⟨k+1,by go_num,by omega,aa,hd fun j x hj hx=>?_⟩
           rcases Nat.lt_or_ge j k with h1|h1
           ·exact HN.o j x h1 hx
           ·have:j=k:=by omega
            subst this;have:=HX.o.symm.trans hx;cases this
            simp[Fh,HQ.o]
          case measure=>simp[intOf];omega
        ·have HR:Hd (Cn vars ⟨base,tA,tc,ts⟩=0):=hd (Acd H0.o HB.o H2.o H3.o (Ep HT.o fun j x hj hx=>HN.o j x (by omega) hx));go_wp2_with fail
         go_ret
         exact⟨Ae HR.o.symm,a1.o.trans HE.o⟩
theorem Ea {w0 w w':World}{S:List Nat}(h0:Ext [] w0 w)(h:Ext S w w')(hS:∀x∈S,w0.heap.size<=x):Ext [] w0 w':=h0.step h fun x hx=>.inr (hS x hx)
def Aj1 (many level:Nat)(e:Ex)(mb:Nat)(w:World)(r:Ending)(w':World):Prop:=
 ∃m:Int,r=.returned (.bool (Jm many level e))/\Ext [mb] w w'/\Blk w' mb 3 #[m]/\(Jm many level e=true->m=(many+Al e:Nat))
theorem Jx {many level:Nat}{e:Ex}:Jm many level e=true ↔ many+Al e<=32/\level+Lh e<=7:=by simp[Jm]
theorem Rt {many level:Nat}{e:Ex}:Jm many level e=false ↔ ¬(many+Al e<=32/\level+Lh e<=7):=by rw[<-Bool.not_eq_true,Jx]
theorem Adn {many level:Nat}{h:EH}{ks:List Ex}(hm:32<many+1):Jm many level (.mk h ks)=false:=by
 rw[Rt];simp only[Al];omega
theorem Aam {many level:Nat}{h:EH}{ks:List Ex}(hm:6<level):Jm many level (.mk h ks)=false:=by
 rw[Rt];simp only[Lh];omega
theorem Afs {many level j:Nat}{h:EH}{ks:List Ex}{e:Ex}(hj:ks[j]? = some e)(hf:Jm (many+1+Ap (ks.take j)) (level+1) e=false):Jm many level (.mk h ks)=false:=by
 have h1:=Afm hj;have h2:=Afl hj;rw[Rt] at hf⊢;simp only[Al,Lh];omega
theorem Aft {many level:Nat}{h:EH}{ks:List Ex}(h0:many+1<=32)(h1:level<=6)(hf:∀(j:Nat) (e:Ex),ks[j]? = some e->Jm (many+1+Ap (ks.take j)) (level+1) e=true):Jm many level (.mk h ks)=true:=by
 have key:∀n,n<=ks.length->many+1+Ap (ks.take n)<=32/\level+1+En (ks.take n)<=7:=by
  intro n
  induction n with
  | zero=>intro _;simp[Ap,En];omega
  | succ n ih=>
   intro hn;have hx:=jJ (l:=ks) (i:=n) (by omega);have:=ih (by omega);have hq:=hf n _ hx;rw[Dl hx,Rj hx];rw[Jx] at hq;omega
 have:=key ks.length (jD _);rw[List.take_length] at this;rw[Jx];simp only[Al,Lh];omega
set_option maxRecDepth 100000 in
theorem Xz:∀(e:Ex) (many level:Nat) (w0 w:World) (mb:Nat),Gu w0 e->Ext [] w0 w->w0.heap.size<=mb->many<=32->level<=7->Blk w mb 3 #[many]->
  Calls prog 220 #[exV e,level,.pointer (some mb)] w (Aj1 many level e mb w):=by
 intro e
 refine Gs (P:=fun e=>∀(many level:Nat) (w0 w:World) (mb:Nat),Gu w0 e->Ext [] w0 w->w0.heap.size<=mb->many<=32->level<=7->Blk w mb 3 #[many]->
  Calls prog 220 #[exV e,level,.pointer (some mb)] w (Aj1 many level e mb w)) ?_ e
 intro h ks ih many level w0 w mb hX hE0 hmb hm32 hl7 hB;have HI:=hd ih;have HX:=hd hX;have HR:=hd hX.row;have ah:=hd hE0;have HB:=hd hB;have ao:ks.length<=1000000:=hX.row.1;have hf:=hB.frozen 0;have hc:=hB.cell 0;have ap:=hB.lt;clear ih hX hE0 hB;show Calls _ _ #[Gt h ks.length,_,_] _ _
 generalize hn:ks.length=n at *;have HN:=hd hn;clear hn;obtain⟨x0,x1,x2,x3,x4,x5,x6,⟨y0,y1,y2,y3⟩,x8,x9⟩:=h;dsimp only[Gt] at *;by_cases hm:32<many+1
 ·have HF:=hd (Adn (level:=level) (h:=⟨x0,x1,x2,x3,x4,x5,x6,⟨y0,y1,y2,y3⟩,x8,x9⟩) (ks:=ks) hm);have ai:many=32:=by omega
  subst ai;go_enter func220,ntmps220
  go_wp2_with fail
  go_ret
  exact⟨33,Aa HF.o.symm,(jL (.inl (by simp)) (jF [mb] w)).alloc _,(HB.o.set_' 0 _ _ rfl).alloc _,fun h=>by rw[HF.o] at h;cases h⟩
 ·by_cases hl:6<level
  ·have HF:=hd (Aam (many:=many) (h:=⟨x0,x1,x2,x3,x4,x5,x6,⟨y0,y1,y2,y3⟩,x8,x9⟩) (ks:=ks) hl);go_enter func220,ntmps220
   go_wp2_with fail
   go_ret
   exact⟨many+1,Aa HF.o.symm,(jL (.inl (by simp)) (jF [mb] w)).alloc _,(HB.o.set_' 0 _ _ rfl).alloc _,fun h=>by rw[HF.o] at h;cases h⟩
  ·have HL:Hd (many+1<=32/\level<=6):=hd (by omega);go_enter func220,ntmps220
   go_wp2_with fail
   have a8:=hd ((jL (b:=mb) (i:=0) (u:=.int .i64 (many+1)) (.inl (by simp)) (jF [mb] w)).alloc (.cells #[x0,x1,x2,x3,x4,x5,x6,y0,.slice y1 y3.length y2,.slice x8 n x9] 41));have aa:=hd ((HB.o.set_' 0 (.int .i64 (many+1)) _ rfl).alloc (.cells #[x0,x1,x2,x3,x4,x5,x6,y0,.slice y1 y3.length y2,.slice x8 n x9] 41));clear hc hf HB;generalize World.alloc _ _=w1 at *;go_loopw [25] (fun i wr=>∃k:Nat,i=.int .i64 k/\k<=n/\Hd (Ext [mb] w wr)/\Hd (Blk wr mb 3 #[.int .i64 (many+1+Ap (ks.take k):Nat)]/\many+1+Ap (ks.take k)<=32)/\Hd (∀(j:Nat) (e:Ex),j<k->ks[j]? = some e->Jm (many+1+Ap (ks.take j)) (level+1) e=true)) (fun i _=>(n-intOf i).toNat)
   case atStart=>exact⟨0,rfl,jQ _,a8,hd ⟨by simpa[Ap] using aa.o,by simpa[Ap] using HL.o.1⟩,hd fun j x hj=>absurd hj (by omega)⟩
   case round=>
    obtain⟨k,rfl,hk,HE,a7,ae⟩:=hrel;clear a8 aa;rename World=>wq
    by_cases au:k<n
    ·have ab:=hd (Ea ah.o HE.o (by simp;omega));obtain⟨b,x,rfl,hx,hc⟩:=(HR.o.keep ab.o).at (i:=k) (by have:=HN.o;omega);have a2:=hd hx;have a1:=ilm hx;have aj:=hd ((HX.o.kid a1));have ak:=hd (HE.o.alloc (.cells (An x) 41));have HC:=hd (HI.o x a1 (many+1+Ap (ks.take k)) (level+1) w0 (wq.alloc (.cells (An x) 41)) mb aj.o (ab.o.alloc _) hmb a7.o.2 (by omega) (a7.o.1.alloc _));have HW:=hd (fun j v hv=>hc j v (by rw[Ey];exact hv):∀(j:Nat) (v:Value),(An x).toList[j]? = some v->wq.cell? ⟨b,k*10+j,none⟩=some v);have al:=hd (jK wq 41 (An x)).wide;rw[Cq] at HC;clear hx hc
     go_wp2_with (first
      | refine Ac rfl 41 _ rfl b (k*10) rfl (An x) HW.o _ underlying41 rfl Ch ?_
      | refine Ax rfl rfl 41 _ _ rfl rfl zEx (Kj _) (An x) rfl rfl Ch rfl (Fu x) ?_
      | refine Ac rfl 41 _ rfl wq.heap.size 0 rfl (An x) al.o _ underlying41 rfl Ch ?_)
     refine HC.o.mono ?_
     rintro r w' ⟨m,rfl,hE,af,ag⟩;have ac:=hd (ak.o.trans hE);have ad:=hd af;have HM:=hd ag;clear hE af ag HC;cases hf:Jm (many+1+Ap (ks.take k)) (level+1) x
     ·have HF:=hd (Afs (h:=⟨x0,x1,x2,x3,x4,x5,x6,⟨y0,y1,y2,y3⟩,some b,x9⟩) a2.o hf);clear hf;go_wp2_with fail
      go_ret
      exact⟨m,Aa HF.o.symm,ac.o,ad.o,fun h=>by rw[HF.o] at h;cases h⟩
     ·have HF:=hd hf;have am:=HM.o hf;subst am;have aq:=(Jx.1 hf).1;have a6:many+1+Ap (ks.take (k+1))<=32:=by rw[Dl a2.o];omega
      clear hf;go_wp2_with fail
      go_roundw
      case rel=>
       refine⟨k+1,by go_num,by omega,ac,hd ⟨?_,a6⟩,hd fun j e hj he=>?_⟩
       ·rw[Dl a2.o,<-Nat.add_assoc];exact ad.o
       ·rcases Nat.lt_or_ge j k with h1|h1
        ·exact ae.o j e h1 he
        ·have:j=k:=by omega
         subst this;have:=a2.o.symm.trans he;cases this
         exact HF.o
      case measure=>simp[intOf];omega
    ·have an:k=n:=by omega
     subst an;have HF:=hd (Aft (h:=⟨x0,x1,x2,x3,x4,x5,x6,⟨y0,y1,y2,y3⟩,x8,x9⟩) HL.o.1 HL.o.2 fun j e he=>ae.o j e (by have:=(ils he).1;have:=HN.o;omega) he);have HT:Hd (ks.take k=ks):=hd (List.take_of_length_le (by have:=HN.o;omega));go_wp2_with fail
     go_ret
     refine⟨_,Aa HF.o.symm,HE.o,a7.o.1,fun _=>?_⟩
     rw[HT.o];simp only[Al];omega
def Acn (x0 x1 x2 x3 x4 x5 x6 y0:Int)(l n:Nat):Bool:=decide (x0=0)&&decide (x1=0)&&decide (x2=0)&&decide (x3=0)&&decide (x4=0)&&decide (x5=0)&&decide (x6=0)&&(decide (y0=0)&&decide (l=0))&&decide (n=0)
theorem Tw (x0 x1 x2 x3 x4 x5 x6 y0:Int)(y1:Option Addr)(l y2:Nat)(x8:Option Addr)(n x9:Nat)(w:World) :
  Calls prog 230 #[.agg #[x0,x1,x2,x3,x4,x5,x6,y0,.slice y1 l y2,.slice x8 n x9]] w fun e w'=>e=.returned (.bool (Acn x0 x1 x2 x3 x4 x5 x6 y0 l n))/\Ext [] w w':=by
 have h:=Oe ⟨x0,x1,x2,x3,x4,x5,x6,⟨y0,y1,y2,List.replicate l (⟨#[]⟩,0)⟩,x8,x9⟩ n w;simpa[Gt,Lb,El,Acn] using h
theorem Tx (h:EH)(n:Nat)(w:World)(hk:0<=Bp h.k h.op):Calls prog 232 #[Gt h n] w fun e w'=>e=.returned (.bool (Dc h))/\Ext [] w w':=by
 have HK:=hd (Kq hk);have HO:Hd (h.k=5->¬(h.op=12/\h.op=13)):=hd (by omega);obtain⟨x0,x1,x2,x3,x4,x5,x6,⟨y0,y1,y2,y3⟩,x8,x9⟩:=h;dsimp only at HK HO;dsimp only[Gt];clear hk;have a1:∀(a b:Array Value) (w':World),Ext [] ((w.alloc (.cells a 41)).alloc (.cells b 41)) w'->Ext [] w w':=fun a b w' h=>(((jF [] w).alloc _).alloc _).trans h
 have a2:=hd a1;clear a1;rcases HK.o with h|h|h|h|h<;>subst h<;>clear HK
 all_goals
  go_enter func232,ntmps232
  go_wp2_with fail
 all_goals
  refine(Tw _ _ _ _ _ _ _ _ _ _ _ _ _ _ _).mono ?_
  rintro e w' ⟨rfl,hE⟩;have HE:=hd (a2.o _ _ _ hE);clear hE;go_wp2_with fail
  go_ret
  refine⟨Aa ?_,HE.o⟩
  first|(simp_all [Dc,Acn,El];done)|(simp_all [Dc,Acn,El];ac_rfl)
end Go.Proofs.YtfppibmloloakaaGreatDoor
