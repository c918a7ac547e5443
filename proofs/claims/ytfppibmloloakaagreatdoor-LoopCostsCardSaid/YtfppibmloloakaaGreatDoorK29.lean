import Derived.Test.YtfppibmloloakaaGreatDoorK28
namespace Go.Proofs.YtfppibmloloakaaGreatDoor
open Go.RowKit Go.Proofs.Tryz
set_option linter.all false
set_option maxHeartbeats 64000000
def XB (D:List Nat)(B:Nat)(w w':World):Prop:=∃S:List Nat,(∀x∈S,x∈D\/B<=x)/\Ext S w w'
theorem XB.of {S D:List Nat}{B:Nat}{w w':World}(hE:Ext S w w')(hS:∀x∈S,x∈D\/B<=x):XB D B w w':=⟨S,hS,hE⟩
theorem XB.of0 {D:List Nat}{B:Nat}{w w':World}(hE:Ext [] w w'):XB D B w w':=⟨[],by simp,hE⟩
theorem XB.refl (D:List Nat)(B:Nat)(w:World):XB D B w w:=XB.of0 (jF _ _)
theorem XB.trans {D:List Nat}{B:Nat}{a b c:World}(h:XB D B a b)(k:XB D B b c):XB D B a c:=by
 obtain⟨S,hS,hE⟩:=h;obtain⟨T,hT,hF⟩:=k;exact⟨S ++ T,fun x hx=>(jN.1 hx).elim (hS x) (hT x),(hE.mono fun x hx=>.inl (List.mem_append_left _ hx)).trans (hF.mono fun x hx=>.inl (List.mem_append_right _ hx))⟩
theorem XB.mono {D D':List Nat}{B:Nat}{a b:World}(h:XB D B a b)(hD:∀x∈D,x∈D'\/B<=x):XB D' B a b:=by
 obtain⟨S,hS,hE⟩:=h;exact⟨S,fun x hx=>(hS x hx).elim (hD x) .inr,hE⟩
theorem XB.size {D:List Nat}{B:Nat}{a b:World}(h:XB D B a b):a.heap.size<=b.heap.size:=by
 obtain⟨S,hS,hE⟩:=h;exact hE.size
theorem XB.held {D:List Nat}{B:Nat}{w w':World}(h:XB D B w w'){p:Addr}{v:Value}(hv:w.cell? p=some v)(hp:p.block<B)(hn:p.block∉D):w'.cell? p=some v:=by
 obtain⟨S,hS,hE⟩:=h;exact hE.held hv fun hm=>(hS _ hm).elim hn fun h=>by omega
theorem XB.env {D:List Nat}{B:Nat}{w w':World}(h:XB D B w w'){eb:Nat}{vs:List Int}(hv:Bn w eb vs)(hp:eb<B)(hn:eb∉D):Bn w' eb vs:=by
 obtain⟨S,hS,hE⟩:=h;exact hv.keep hE fun hm=>(hS _ hm).elim hn fun h=>by omega
theorem XB.cex {D:List Nat}{B n:Nat}{w w':World}(h:XB D B w w')(hn:∀x∈D,n<=x)(hB:n<=B){names:List ByteArray}{g:Nat}{e:Ex}(k:CEx w n [] names g e):CEx w' n [] names g e:=by
 obtain⟨S,hS,hE⟩:=h;exact k.step hE (fun x hx=>.inr ((hS x hx).elim (hn x) fun h=>by omega)) (jD n) fun y hy=>.inl hy
theorem XB.lst {D:List Nat}{B n:Nat}{w w':World}(h:XB D B w w')(hn:∀x∈D,n<=x)(hB:n<=B){nb:Nat}{L:List Nat}{AL:List Value}{names:List ByteArray}{xs:List Int}{gl:List Nat}{no:Nat}{A:Option Addr}{gs:List Nat}{l:List St}(k:Dh w n nb L AL names xs gl no A gs l):Dh w' n nb L AL names xs gl no A gs l:=by
 obtain⟨S,hS,hE⟩:=h;exact k.step hE fun x hx=>(hS x hx).elim (hn x) fun h=>by omega
structure Tch where
 buf:Int
 at_:Int
 inst:Int
 part:Int
 wr:Bool
def tcC (t:Tch):List Value:=tcL t.buf t.at_ t.inst t.part t.wr
def kyL (k:Nat×List Int):List Value:=(Ek k.1 k.2).toList
theorem Dm {w:World}{B e s n:Nat}{v:Value}{l:List Value}(h:w.ownsRow B e s v n l){g:Nat}(hg:v.ownBlock=some g):∃C,Blk w g e C:=by
 rcases h.2 with⟨h1,_⟩|⟨g',cap,a1,h1,_,h3,_⟩
 ·rw[h1] at hg;cases hg
 ·rw[h1] at hg;cases hg;exact⟨a1,h3⟩
def TrS (tb B:Nat)(cv:Value)(K:List (Nat×List Int))(T:List Tch)(w:World):Prop:=
 tb<B/\B<=w.heap.size/\∃vL vT:Value,Blk w tb 95 #[cv,vL,vT]/\w.ownsRow B 98 10 vL K.length (K.flatMap kyL)/\w.ownsRow B 202 5 vT T.length (T.flatMap tcC)
theorem TrS.ext {tb B:Nat}{cv:Value}{K:List (Nat×List Int)}{T:List Tch}{w w':World}(h:TrS tb B cv K T w){S:List Nat}(hE:Ext S w w')(hS:∀x∈S,x≠tb/\(x<B\/∃C,Blk w x 3 C)):TrS tb B cv K T w':=by
 obtain⟨h0,h1,vL,vT,h2,h3,h4⟩:=h;refine⟨h0,Nat.le_trans h1 hE.size,vL,vT,h2.ext hE fun hm=>(hS _ hm).1 rfl,Ah h3 hE fun k hk hm=>?_,Ah h4 hE fun k hk hm=>?_⟩
 ·rcases(hS _ hm).2 with h5|⟨C,h5⟩
  ·have:=Ad h3 k hk;omega
  ·obtain⟨C',h6⟩:=Dm h3 hk;exact absurd (h6.type h5) (by decide)
 ·rcases(hS _ hm).2 with h5|⟨C,h5⟩
  ·have:=Ad h4 k hk;omega
  ·obtain⟨C',h6⟩:=Dm h4 hk;exact absurd (h6.type h5) (by decide)
theorem TrS.ext0 {tb B:Nat}{cv:Value}{K:List (Nat×List Int)}{T:List Tch}{w w':World}(h:TrS tb B cv K T w)(hE:Ext [] w w'):TrS tb B cv K T w':=h.ext hE (by simp)
theorem TrS.nt {tb B:Nat}{cv:Value}{K:List (Nat×List Int)}{T:List Tch}{w:World}(h:TrS tb B cv K T w):tb<B/\B<=w.heap.size:=⟨h.1,h.2.1⟩
structure Sy (w:World)(n g:Nat)(names:List ByteArray)(nb:Nat)(h:SH)(no:Nat):Prop where
 gn:g<n
 src:∃(pb po vb:Nat),pb<n/\w.cell? ⟨g,0,none⟩=some (.pointer (some ⟨pb,po,none⟩))/\w.cell? ⟨pb,po+8,none⟩=some (.int .i64 h.buf)/\w.cell? ⟨g,16,none⟩=some (ptV vb)/\CEx w n [] names vb h.val
 line:∀(j:Nat) (v:Value),(Bl h.at_.base (Bq names h.at_.ts)).toList[j]? = some v->w.cell? ⟨g,7+j,none⟩=some v
 no:w.cell? ⟨g,5,none⟩=some (.int .i64 no)
 aff:Cn names h.at_=0
 val:Bs names nb h.val=0
 fit:Al h.val<=32
theorem Sy.xb {w w':World}{n g:Nat}{names:List ByteArray}{nb:Nat}{h:SH}{no:Nat}(k:Sy w n g names nb h no){D:List Nat}{B:Nat}(hX:XB D B w w')(hn:∀x∈D,n<=x)(hB:n<=B):Sy w' n g names nb h no:=by
 have a1:∀b,b<n->b<B/\b∉D:=fun b hb=>⟨by omega,fun hm=>by have:=hn b hm;omega⟩
 obtain⟨pb,po,vb,h1,h2,h3,h4,h5⟩:=k.src;exact⟨k.gn,⟨pb,po,vb,h1,hX.held h2 (a1 g k.gn).1 (a1 g k.gn).2,hX.held h3 (a1 pb h1).1 (a1 pb h1).2,hX.held h4 (a1 g k.gn).1 (a1 g k.gn).2,hX.cex hn hB h5⟩,fun j v hv=>hX.held (k.line j v hv) (a1 g k.gn).1 (a1 g k.gn).2,hX.held k.no (a1 g k.gn).1 (a1 g k.gn).2,k.aff,k.val,k.fit⟩
theorem Sy.of {w:World}{n nb:Nat}{L:List Nat}{AL:List Value}{names:List ByteArray}{path:List Int}{gl:List Nat}{no g:Nat}{h:SH}{b:List St}{pb po:Nat}{CA:Option Addr}{cc:Nat}{A:Option Addr}{cap:Nat}{gs:List Nat}{PA:Option Addr}{pc:Nat}{vv:Value}(k:Af6 w n L AL names path gl no g h b pb po CA cc A cap gs PA pc vv)(hk:h.k=3)(hF:Fd nb names (.mk h b)):Sy w n g names nb h no:=by
 obtain⟨vb,LA,lc,rfl,hx,-,-,-⟩:=k.val hk;have hs:=Lx.of k hk hF;have hb:=k.blk
 have hf:Al h.val<=32:=by
  cases hF with
  | loop _ _ _ h1=>omega
  | when _ _ _ h1=>omega
  | store _ _ h1 h2 h3 h4 h5 h6=>have:=(Jx.1 h6).1;omega
 exact⟨k.gn,⟨pb,po,vb,k.pn,hb.cell 0,k.src 8 _ rfl,hb.cell 16,hx⟩,hs.line,hs.no,hs.aff,hs.val,hf⟩
theorem Ac3 (tb B eb n g:Nat)(cv:Value)(K:List (Nat×List Int))(T:List Tch)(names:List ByteArray)(nb no:Nat)(vs:List Int)(h:SH)(inst part:Int)(w:World)
  (hT:TrS tb B cv K T w) (hS:Sy w n g names nb h no) (hV:Bn w eb vs) (hl:vs.length=names.length) (hn:n<=tb) (he:eb<B) (hT5:T.length<=100000) :
  Calls prog 180 #[.pointer (some tb),ptV g,.slice (some eb) vs.length 8,inst,part] w fun e w'=>
   e=.returned (.tuple #[])/\XB [tb] B w w'/\TrS tb B cv K (T ++ [⟨h.buf,evA (names.zip vs) h.at_,inst,part,true⟩]) w':=by
 obtain⟨h0,h1,vL,vT,h2,h3,h4⟩:=hT;obtain⟨pb,po,vb,k1,k2,k3,k4,k5⟩:=hS.src;have a1:∀b,b<B->b∉vT.ownBlock.toList:=fun b hb hm=>by have:=Ad h4 b (jC.1 hm);omega
 have a6:=hS.gn;refine(Ael tb g eb B T.length pb po cv vL vT _ names vs h inst part w h2 h4 h1 h0 hT5 (fun W hW=>⟨hW.held k2 (a1 g (by omega)),hW.held k3 (a1 pb (by omega)),fun j v hv=>hW.held (hS.line j v hv) (a1 g (by omega)),hV.keep hW (a1 eb he)⟩) hS.aff hl).mono ?_
 rintro e w' ⟨h5,gz,cz,hE,hB,a2,hg⟩;refine⟨h5,XB.of hE fun x hx=>?_,h0,Nat.le_trans h1 hE.size,vL,_,hB,Ah h3 hE fun k hk hm=>?_,?_⟩
 ·rcases jE.1 hx with rfl|hx
  ·exact .inl (jA.2 rfl)
  ·exact .inr (Ad h4 x (jC.1 hx))
 ·rcases jE.1 hm with rfl|hm
  ·have:=Ad h3 _ hk;omega
  ·obtain⟨C,h6⟩:=Dm h3 hk;obtain⟨C',h7⟩:=Dm h4 (jC.1 hm);exact absurd (h6.type h7) (by decide)
 ·rw[jG,jS,List.flatMap_append];simpa[tcC] using a2
def rdC (env:Env)(h:EH)(inst:Nat)(part k:Nat):List Tch:=(List.range k).map fun(i:Nat)=>⟨h.buf,evA env h.at_+h.n*(i:Int),(inst:Int),((part+i:Nat):Int),false⟩
mutual
def rdT (env:Env)(inst part:Nat):Ex->List Tch|.mk h ks=>rdC env h inst part (rdX h) ++ Nb env inst (part+rdX h) ks
def Nb (env:Env)(inst part:Nat):List Ex->List Tch | []=>[]|e :: r=>rdT env inst part e ++ Nb env inst (part+rdE e) r
end
theorem Ag5 (env:Env)(h:EH)(inst part:Nat):rdC env h inst part 0=[]:=rfl
theorem Ag6 (env:Env)(h:EH)(inst part k:Nat):rdC env h inst part (k+1)=rdC env h inst part k ++ [⟨h.buf,evA env h.at_+h.n*(k:Int),(inst:Int),((part+k:Nat):Int),false⟩]:=by
 unfold rdC;rw[List.range_succ];simp
theorem Qx (env:Env)(h:EH)(inst part k:Nat):(rdC env h inst part k).length=k:=by simp[rdC]
mutual
theorem Qy (env:Env)(inst:Nat):∀(part:Nat) (e:Ex),(rdT env inst part e).length=rdE e
 | part,.mk h ks=>by simp only[rdT,rdE,jG,Qx,Sz env inst _ ks]
theorem Sz (env:Env)(inst:Nat):∀(part:Nat) (l:List Ex),(Nb env inst part l).length=Fb l
 | part,[]=>rfl
 | part,e :: r=>by simp only[Nb,Fb,jG,Qy env inst part e,Sz env inst _ r]
end
theorem Pz (env:Env)(inst:Nat)(b:List Ex):∀(a:List Ex) (part:Nat),Nb env inst part (a ++ b)=Nb env inst part a ++ Nb env inst (part+Fb a) b
 | [],part=>by simp[Nb,Fb]
 | e :: a,part=>by simp only[List.cons_append,Nb,Fb,Pz env inst b a,jP,Nat.add_assoc]
theorem Aem {env:Env}{inst part:Nat}{l:List Ex}{j:Nat}{e:Ex}(h:l[j]? = some e):Nb env inst part (l.take (j+1))=Nb env inst part (l.take j) ++ rdT env inst (part+Fb (l.take j)) e:=by
 rw[List.take_add_one,h,Pz];simp[Nb]
def Tb (env:Env)(h:SH)(c:Nat):List Tch:=rdT env c 0 h.val
def Zf (env:Env)(h:SH)(c:Nat):Tch:=⟨h.buf,evA env h.at_,(c:Int),(rdE h.val:Nat),true⟩
def Qj (env:Env)(h s:SH)(c k:Nat):List Tch:=Ef k fun j=>Tb (Bh env h j) s (c+j)
def Qk (env:Env)(h s:SH)(c k:Nat):List Tch:=(List.range k).map fun j=>Zf (Bh env h j) s (c+j)
theorem Vo (env:Env)(h s:SH)(c:Nat):Qj env h s c 0=[]:=rfl
theorem Aen (env:Env)(h s:SH)(c:Nat):Qk env h s c 0=[]:=rfl
theorem Vp (env:Env)(h s:SH)(c k:Nat):Qj env h s c (k+1)=Qj env h s c k ++ Tb (Bh env h k) s (c+k):=Ei ..
theorem Aeo (env:Env)(h s:SH)(c k:Nat):Qk env h s c (k+1)=Qk env h s c k ++ [Zf (Bh env h k) s (c+k)]:=by unfold Qk;rw[List.range_succ];simp
theorem Tc (env:Env)(h s:SH)(c k:Nat):(Qj env h s c k).length=k*rdE s.val:=by
 induction k with
 | zero=>simp[Vo]
 | succ k ih=>rw[Vp,jG,ih,Tb,Qy,Nat.add_mul,Nat.one_mul]
theorem Zg (env:Env)(h s:SH)(c k:Nat):(Qk env h s c k).length=k:=by simp[Qk]
def Ji (env:Env)(h:SH)(c:Nat):List St->List Tch
 | []=>[]
 | s :: r=>Qj env h s.h c (Ar h) ++ Qk env h s.h c (Ar h) ++ Ji env h (c+Ar h) r
mutual
def Om (env:Env)(no c:Nat):St->List Tch
 | .mk h b=>if h.k=3 then Tb env h c ++ [Zf env h c] else if h.k=2 then(if Ec env h then Ft env no c b else [])
   else if h.vec then Ji env h c b else((List.range (Ar h)).map fun k=>Ft (Bh env h k) no (c+(Ef k fun j=>Au (Bh env h j) no b).length) b).flatten
def Ft (env:Env)(no c:Nat):List St->List Tch
 | []=>[]
 | s :: r=>Om env no c s ++ Ft env (no+Be s) (c+(Cv env no s).length) r
end
theorem Abj {env:Env}{no c:Nat}{h:SH}{b:List St}(hk:h.k=3):Om env no c (.mk h b)=Tb env h c ++ [Zf env h c]:=by rw[Om,ijp hk]
theorem Aep {env:Env}{no c:Nat}{h:SH}{b:List St}(hk:h.k=2):Om env no c (.mk h b)=if Ec env h then Ft env no c b else []:=by rw[Om,ijn (by omega),ijp hk]
theorem Ag7 {env:Env}{no c:Nat}{h:SH}{b:List St}(hk:h.k=1)(hv:h.vec=true):Om env no c (.mk h b)=Ji env h c b:=by rw[Om,ijn (by omega),ijn (by omega),ijp hv]
theorem Ag8 {env:Env}{no c:Nat}{h:SH}{b:List St}(hk:h.k=1)(hv:h.vec=false):Om env no c (.mk h b)=Ef (Ar h) fun k=>Ft (Bh env h k) no (c+(Ef k fun j=>Au (Bh env h j) no b).length) b:=by
 rw[Om,ijn (by omega),ijn (by omega),ijn (by simp[hv])];rfl
theorem Qa (env:Env)(h:SH)(b:List St):∀(a:List St) (c:Nat),Ji env h c (a ++ b)=Ji env h c a ++ Ji env h (c+a.length*Ar h) b
 | [],c=>by simp[Ji]
 | s :: a,c=>by
  simp only[List.cons_append,Ji,Qa env h b a,jP,List.length_cons];congr 4
  rw[Nat.add_mul];omega
theorem Aeq {env:Env}{h:SH}{c:Nat}{l:List St}{j:Nat}{s:St}(hj:l[j]? = some s):Ji env h c (l.take (j+1))=Ji env h c (l.take j) ++ (Qj env h s.h (c+j*Ar h) (Ar h) ++ Qk env h s.h (c+j*Ar h) (Ar h)):=by
 have h1:=(ils hj).1;rw[List.take_add_one,hj,Qa,List.length_take,Nat.min_eq_left (by omega)];simp[Ji]
theorem Qb (env:Env)(b:List St):∀(a:List St) (no c:Nat),Ft env no c (a ++ b)=Ft env no c a ++ Ft env (no+Ab a) (c+(Au env no a).length) b
 | [],no,c=>by simp[Ft,Ab,Au]
 | s :: a,no,c=>by simp only[List.cons_append,Ft,Ab,Au,Qb env b a,jP,jG,Nat.add_assoc]
theorem Aer {env:Env}{no c:Nat}{l:List St}{j:Nat}{s:St}(h:l[j]? = some s):Ft env no c (l.take (j+1))=Ft env no c (l.take j) ++ Om env (no+Ab (l.take j)) (c+(Au env no (l.take j)).length) s:=by
 rw[List.take_add_one,h,Qb];simp[Ft]
theorem Ev (a b:List Az):Gq (a ++ b)=Gq a+Gq b:=by simp[Gq]
theorem Zh (env:Env)(h:SH)(no:Nat)(s:St)(k:Nat):Gq (Fz env h no s k)=k*(rdE s.h.val+1):=by
 induction k with
 | zero=>simp[Mo,Gq]
 | succ k ih=>rw[Jw,Ev,ih,Nat.add_mul,Nat.one_mul];simp[Gq]
theorem Td (env:Env)(h:SH):∀(b:List St) (no c:Nat),(Ji env h c b).length=Gq (Ct env h no b)
 | [],no,c=>by simp[Ji,Ct,Gq]
 | s :: b,no,c=>by
  have h1:Ct env h no (s :: b)=Fz env h no s (Ar h) ++ Ct env h (no+1) b:=rfl;rw[h1,Ev,Zh,<-Td env h b (no+1) (c+Ar h)];simp only[Ji,jG,Tc,Zg,Nat.mul_add,Nat.mul_one]
theorem Qc {env:Env}(l:List St)(ih:∀s∈l,∀no c,(Om env no c s).length=Gq (Cv env no s)):∀no c,(Ft env no c l).length=Gq (Au env no l):=by
 induction l with
 | nil=>intro no c;simp[Ft,Au,Gq]
 | cons s r ihr=>
  intro no c;simp only[Ft,Au,jG,Ev,ih s (jO ..),ihr fun s hs=>ih s (jI _ hs)]
theorem Ag9:∀(s:St) (env:Env) (no c:Nat),(Om env no c s).length=Gq (Cv env no s):=by
 refine Dn fun h b ih=>?_
 intro env no c;have hl:∀env no c,(Ft env no c b).length=Gq (Au env no b):=fun env=>Qc b fun s hs no c=>ih s hs env no c
 rw[Om,Cv];split
 ·simp[Tb,Qy,Gq]
 split
 ·split
  ·exact hl ..
  ·simp[Gq]
 split
 ·exact Td ..
 ·have key:∀m,(Ef m fun k=>Ft (Bh env h k) no (c+(Ef k fun j=>Au (Bh env h j) no b).length) b).length=Gq (Ef m fun k=>Au (Bh env h k) no b):=by
   intro m
   induction m with
   | zero=>simp[Jt,Gq]
   | succ m ihm=>rw[Ei,Ei,jG,Ev,ihm,hl]
  exact key _
theorem Zi (env:Env)(no c:Nat)(l:List St):(Ft env no c l).length=Gq (Au env no l):=Qc l (fun s _=>Ag9 s env) no c
def kyI (i:Az):Nat×List Int:=(i.no,i.env.map Prod.snd)
theorem Ac4 {names:List ByteArray}{vs:List Int}(hl:vs.length=names.length)(no:Nat)(h:SH):kyI ⟨no,h,names.zip vs⟩=(no,vs):=by
 simp only[kyI];rw[List.map_snd_zip (by omega)]
def Fit (K:List (Nat×List Int))(T:List Tch)(l:List Az):Prop:=K.length+l.length<=2000/\T.length+Gq l<=20000
theorem Fit.pre {K:List (Nat×List Int)}{T:List Tch}{a b:List Az}(h:Fit K T (a ++ b)):Fit K T a:=by
 obtain⟨h1,h2⟩:=h;rw[jG] at h1;rw[Ev] at h2;exact⟨by omega,by omega⟩
theorem Fit.post {K:List (Nat×List Int)}{T ta:List Tch}{a b:List Az}(h:Fit K T (a ++ b))(hl:ta.length=Gq a):Fit (K ++ a.map kyI) (T ++ ta) b:=by
 obtain⟨h1,h2⟩:=h;rw[jG] at h1;rw[Ev] at h2;exact⟨by simp only[jG,List.length_map];omega,by simp only[jG,hl];omega⟩
theorem Fit.list {K:List (Nat×List Int)}{T:List Tch}{env:Env}{no:Nat}{l:List St}(h:Fit K T (Au env no l)){k:Nat}{s:St}(hs:l[k]? = some s):Fit (K ++ (Au env no (l.take k)).map kyI) (T ++ Ft env no K.length (l.take k)) (Cv env (no+Ab (l.take k)) s):=by
 have h1:=Kn env no (l.take (k+1)) (l.drop (k+1));rw[List.take_append_drop,Ko hs] at h1;rw[h1] at h;exact h.pre.post (Zi ..)
theorem Fit.cat {K:List (Nat×List Int)}{T ta:List Tch}{n j:Nat}{f:Nat->List Az}(h:Fit K T (Ef n f))(hj:j<n)(hl:ta.length=Gq (Ef j f)):Fit (K ++ (Ef j f).map kyI) (T ++ ta) (f j):=by
 obtain⟨r,hr⟩:=Uu f (show j+1<=n by omega);rw[hr,Ei] at h;exact h.pre.post hl
def Abk (env:Env)(h:SH)(no c:Nat)(b:List St)(j:Nat):List Tch:=Ef j fun k=>Ft (Bh env h k) no (c+(Ef k fun i=>Au (Bh env h i) no b).length) b
theorem Vq (env:Env)(h:SH)(no c:Nat)(b:List St):Abk env h no c b 0=[]:=rfl
theorem Vr (env:Env)(h:SH)(no c:Nat)(b:List St)(j:Nat):Abk env h no c b (j+1)=Abk env h no c b j ++ Ft (Bh env h j) no (c+(Ef j fun i=>Au (Bh env h i) no b).length) b:=Ei ..
theorem Zj (env:Env)(h:SH)(no c:Nat)(b:List St):∀j,(Abk env h no c b j).length=Gq (Ef j fun i=>Au (Bh env h i) no b)
 | 0=>by simp[Vq,Jt,Gq]
 | j+1=>by rw[Vr,Ei,jG,Ev,Zj env h no c b j,Zi]
theorem Te (env:Env)(h:SH):∀(b:List St) (no:Nat),(Ct env h no b).length=b.length*Ar h
 | [],no=>by simp[Ct]
 | s :: b,no=>by
  have h1:Ct env h no (s :: b)=Fz env h no s (Ar h) ++ Ct env h (no+1) b:=rfl;rw[h1,jG,Te env h b,List.length_cons,Nat.add_mul,Nat.one_mul];simp[Fz];omega
section
theorem TrS.snoc {tb B:Nat}{cv:Value}{K:List (Nat×List Int)}{T:List Tch}{w w':World}{vL vT:Value}{gz cz:Nat}(t:Tch)(h0:tb<B)(h1:B<=w.heap.size)
  (h3:w.ownsRow B 98 10 vL K.length (K.flatMap kyL)) (h4:w.ownsRow B 202 5 vT T.length (T.flatMap tcC)) (hE:Ext (tb :: vT.ownBlock.toList) w w')
  (hB:Blk w' tb 95 #[cv,vL,.slice (some gz) (T.length+1) cz]) (hT:w'.ownsRow B 202 5 (.slice (some gz) (T.length+1) cz) (T.length+1) (T.flatMap tcC ++ tcC t)) :
  XB [tb] B w w'/\TrS tb B cv K (T ++ [t]) w':=by
 refine⟨XB.of hE fun x hx=>?_,h0,Nat.le_trans h1 hE.size,vL,_,hB,Ah h3 hE fun k hk hm=>?_,?_⟩
 ·rcases jE.1 hx with rfl|hx
  ·exact .inl (jA.2 rfl)
  ·exact .inr (Ad h4 x (jC.1 hx))
 ·rcases jE.1 hm with rfl|hm
  ·have:=Ad h3 _ hk;omega
  ·obtain⟨C,h6⟩:=Dm h3 hk;obtain⟨C',h7⟩:=Dm h4 (jC.1 hm);exact absurd (h6.type h7) (by decide)
 ·rw[jG,jS,List.flatMap_append];simpa using hT
theorem Ai4 (T:List Tch):(T.flatMap tcC).length=T.length*5:=by
 induction T with
 | nil=>rfl
 | cons t T ih=>rw[List.flatMap_cons,jG,ih,List.length_cons,Nat.add_mul];simp[tcC,tcL];omega
attribute [local irreducible] Bj
set_option maxRecDepth 100000 in
theorem Abl (tb B eb n nb pp inst:Nat)(cv:Value)(K:List (Nat×List Int))(names:List ByteArray)(vs:List Int)(hl:vs.length=names.length)(hnt:n<=tb)(htB:tb<B)(heB:eb<B)(het:eb≠tb)(hpp:B<=pp):∀e:Ex,Bs names nb e=0->Al e<=1000000->∀(g:Nat) (T:List Tch) (part:Nat) (w:World),
  TrS tb B cv K T w->CEx w n [] names g e->Bn w eb vs->Blk w pp 3 #[part]->T.length+rdE e<=50000->part+rdE e<=50000->
  Calls prog 211 #[.pointer (some tb),ptV g,.slice (some eb) vs.length 8,inst,.pointer (some pp)] w fun r w'=>
   r=.returned (.tuple #[])/\XB [tb] B w w'/\TrS tb B cv K (T ++ rdT (names.zip vs) inst part e) w'/\Blk w' pp 3 #[(part+rdE e:Nat)]:=by
 refine Gs fun h ks ih=>?_
 intro hx hp g T part w hT hC hV hP hb1 hb2;have HI:=hd ih;have HO:=hd (Tv.of hx);have HT:=hd hT;have HV:=hd hV;have bp:=hd hP;have HL:=hd hl
 have bq:=hd (fun j e (hj:ks[j]? = some e)=>(show Al e<=1000000 by
  have h1:=Dl hj;have h2:Ap (ks.take (j+1))<=Ap ks:=Gw;rw[Al] at hp;omega))
 have aN:Hd (rdE (.mk h ks)=rdX h+Fb ks):=hd (by rw[rdE]);have br:Hd (rdT (names.zip vs) inst part (.mk h ks)=rdC (names.zip vs) h inst part (rdX h) ++ Nb (names.zip vs) inst (part+rdX h) ks):=hd (by rw[rdT]);rw[aN.o] at hb1 hb2
 obtain⟨pb,po,A,cap,gs,hg,ba,ap,hk,bc,au,hs,aq⟩:∃(pb po:Nat) (A:Option Addr) (cap:Nat) (gs:List Nat),Blk w g 271 (Jy pb po h.at_.base (Bq names h.at_.ts) (.slice A ks.length cap))/\(∀(j:Nat) (v:Value),(exH h ks.length)[j]? = some v->w.cell? ⟨pb,po+j,none⟩=some v)/\pb<n/\Ak w A 1 ptC gs/\(∀b o,A=some ⟨b,o,none⟩->b<n)/\gs.length=ks.length/\(∀(i g':Nat) (e':Ex),gs[i]? = some g'->ks[i]? = some e'->CEx w n [] names g' e')/\g<n:=by
  cases hC with
  | mk _ _ _ pb po A cap gs hg hg2 hp hp2 hk hk2 hl hs=>exact⟨pb,po,A,cap,gs,hg,hp,hp2.1,hk,fun b o hA=>(hk2 b o hA).1,hl,hs,hg2.1⟩
 have HG:=hd hg;have HP:=hd ba;have HK:=hd hk;have bt:=hd bc;have aO:=hd au;have HS:=hd hs;have ch:gs.length<=1000000:=HK.o.1
 have aP:Hd (h.k=4->(rdX h:Int)=h.m):=hd fun h4=>by
  have:=(HO.o.one h4).2.2.1;unfold rdX;rw[ijn (by omega),ijp h4];omega
 have aQ:Hd (h.k=3->rdX h=1):=hd fun h3=>by unfold rdX;rw[ijp h3]
 have aR:Hd (h.k≠3->h.k≠4->rdX h=0):=hd fun h3 h4=>by unfold rdX;rw[ijn h3,ijn h4]
 have bu:Hd ((h.k=3\/h.k=4)->∀j:Nat,j<rdX h->0<=h.n*(j:Int)/\h.n*(j:Int)<=100000*262144):=hd fun hh j hj=>by
  rcases hh with h3|h4
  ·rw[aQ.o h3] at hj;have:j=0:=by omega
   subst this;simp
  ·obtain⟨-,⟨n1,n2⟩,⟨m1,m2⟩,-⟩:=HO.o.one h4;have:=aP.o h4;exact⟨Int.mul_nonneg (by omega) (by omega),Int.mul_le_mul (by omega) (by omega) (by omega) (by omega)⟩
 have bv:=hd (HO.o.kids);have bx:n<=B:=by omega
 have a1:Hd (∀b,b<n->b<B/\b∉[tb]):=hd fun b hb=>⟨by omega,fun hm=>by rw[jA.1 hm] at hb;omega⟩
 have bz:Hd (∀x∈[tb],n<=x):=hd fun x hx=>by rw[jA.1 hx];exact hnt
 have aS:Hd (eb∉[tb]):=hd fun h=>het (jA.1 h)
 have aT:Hd (∀(j:Nat) (v:Value),(Bl h.at_.base (Bq names h.at_.ts)).toList[j]? = some v->w.cell? ⟨g,1+j,none⟩=some v):=hd fun j v hv=>by
  rw[HG.o.cell];have h9:=(ils hv).1;have:j=0\/j=1\/j=2\/j=3\/j=4\/j=5\/j=6\/j=7\/j=8:=by simp[Bl] at h9;omega
  rcases this with rfl|rfl|rfl|rfl|rfl|rfl|rfl|rfl|rfl<;>exact hv
 clear ih hx hT hC hV hP hg ba hk bc au hs hp hl;have ab:=hd (Ku g 1 names h.at_ eb vs w aT.o HV.o HO.o.aff HL.o)
 have aU:Hd (-100000000000<=evA (names.zip vs) h.at_/\evA (names.zip vs) h.at_<=100000000000):=hd (by
  rw[<-HO.o.aff.val HL.o];exact Wo HO.o.aff HV.o.2.1 HV.o.1)
 generalize bk:vs.length=d at *;have HD:=hd bk;clear bk;generalize ai:names.zip vs=env at *;have bA:=hd ai;clear ai;have au:=HG.o.lt;unfold ptV;go_enter func211,ntmps211
 go_wp2_with fail
 refine ab.o.mono ?_
 rintro e w1 ⟨rfl,hE⟩;have ak:=hd hE;have bB:Hd (XB [tb] B w w1):=hd (XB.of0 hE);have bC:=hd (HT.o.ext0 hE);have bD:=hd (bp.o.ext hE (by simp));have bE:=hd (HV.o.keep hE (by simp));have aw:=hd (HG.o.ext hE (by simp));have aV:w1.cell? ⟨g,0,none⟩=some (.pointer (some ⟨pb,po,none⟩)):=aw.o.cell 0;have aa:=aw.o.lt;have qk:w1.cell? ⟨pb,po,none⟩=some (.int .i64 h.k):=ak.o.held (HP.o 0 _ rfl) (by simp);have qm:w1.cell? ⟨pb,po+5,none⟩=some (.int .i64 h.m):=ak.o.held (HP.o 5 _ rfl) (by simp);have qn:w1.cell? ⟨pb,po+4,none⟩=some (.int .i64 h.n):=ak.o.held (HP.o 4 _ rfl) (by simp);have qb:w1.cell? ⟨pb,po+6,none⟩=some (.int .i64 h.buf):=ak.o.held (HP.o 6 _ rfl) (by simp);have ax:Hd (w1.cell? ⟨g,0,none⟩=some (.pointer (some ⟨pb,po,none⟩))/\w1.cell? ⟨pb,po+4,none⟩=some (.int .i64 h.n)/\w1.cell? ⟨pb,po+6,none⟩=some (.int .i64 h.buf)):=hd ⟨aV,qn,qb⟩;have al:=jB w1 _ qk;simp only at al;clear hE ab aT qn qb;generalize bl:evA env h.at_=av at *;have bF:=hd bl;clear bl;have ac:=hd (fun k=>Ag6 env h inst part k);rw[bF.o] at ac;generalize hX:rdX h=X at *;generalize ce:h.n=en at *;generalize hbf:h.buf=bf at *
 have ay:Hd (0<X->h.k=3\/h.k=4):=hd fun h0=>by
  by_cases h3:h.k=3
  ·exact .inl h3
  ·by_cases h4:h.k=4
   ·exact .inr h4
   ·have:=aR.o h3 h4;omega
 go_upto_block 0 with fail
 go_cut [11] (fun s wx=>s=.int .i64 (X:Nat)/\wx=w1)
 case first=>
  by_cases h3:h.k=3
  ·have hx:=aQ.o h3;have e3:(h.k==3)=true:=by simpa using h3
   clear h3;generalize h.k=hk at *;go_wp2_with fail
   go_meet
   exact⟨by rw[hx];rfl,rfl⟩
  ·by_cases h4:h.k=4
   ·have hx:=aP.o h4;have e3:(h.k==3)=false:=by simpa using h3
    have e4:(h.k==4)=true:=by simpa using h4
    have bG:=hd hx;clear h3 h4 hx;generalize h.k=hk at *;generalize h.m=hm at *;go_wp2_with fail
    go_meet
    exact⟨by rw[bG.o],rfl⟩
   ·have hx:=aR.o h3 h4;have e3:(h.k==3)=false:=by simpa using h3
    have e4:(h.k==4)=false:=by simpa using h4
    clear h3 h4;generalize h.k=hk at *;go_wp2_with fail
    go_meet
    exact⟨by rw[hx];rfl,rfl⟩
 case rest=>
  obtain⟨rfl,hw⟩:=hcut;have hw':=hw.symm;subst hw';clear aV qk qm aa al hX ce hbf;have ci:X<=50000:=by omega
  have bH:=hd (fun j=>@Acy ks j);generalize bm:Fb ks=RL at *;have bI:=hd bm;clear bm;go_wp2_with fail
  go_loopw [39] (fun i wr=>∃k:Nat,i=.int .i64 k/\k<=X/\Hd (XB [tb] B w1 wr)/\Hd (TrS tb B cv K (T ++ rdC env h inst part k) wr)/\Hd (Blk wr pp 3 #[(part+k:Nat)])) (fun i _=>(X-intOf i).toNat)
  case atStart=>exact⟨0,rfl,jQ _,hd (XB.refl _ _ _),hd (by rw[Ag5,List.append_nil];exact bC.o),bD⟩
  case round=>
   obtain⟨k,rfl,hk,HE,aJ,ah⟩:=hrel;rename World=>wq
   by_cases cg:k<X
   ·
    have cj:(k:Int)<(X:Int):=by omega
    have az:=bu.o (ay.o (by omega)) k cg;have q0:=HE.o.held ax.o.1 (a1.o g aq).1 (a1.o g aq).2;have q4:=HE.o.held ax.o.2.1 (a1.o pb ap).1 (a1.o pb ap).2;have q6:=HE.o.held ax.o.2.2 (a1.o pb ap).1 (a1.o pb ap).2;obtain⟨vL,vT,hB,bd,a8⟩:=aJ.o.2.2;have aW:=aJ.o.2.1;have HB:=hd hB;have bJ:=hd bd;have aX:=hd a8;have bK:(T ++ rdC env h inst part k).length=T.length+k:=by rw[jG,Qx]
    have aA:=hd (Ai4 (T ++ rdC env h inst part k));have aY:Hd (T ++ rdC env h inst part (k+1)=(T ++ rdC env h inst part k) ++ [⟨bf,av+en*(k:Int),(inst:Int),((part+k:Nat):Int),false⟩]):=hd (by rw[ac.o,jP]);generalize T ++ rdC env h inst part k=Tk at *;have aB:Hd (tb∉vT.ownBlock.toList):=hd fun hm=>by have:=Ad a8 tb (jC.1 hm);omega
    have bL:Hd (∀q,vT.ownBlock=some q->B<=q/\q<wq.heap.size):=hd fun q hq=>by
     obtain⟨C,h6⟩:=Dm a8 hq;exact⟨Ad a8 q hq,h6.lt⟩
    have aC:Hd (pp∉vT.ownBlock.toList):=hd fun hm=>by
     obtain⟨C,h6⟩:=Dm a8 (jC.1 hm);exact absurd (h6.type ah.o) (by decide)
    have a6:Hd (∀b,b<B->b∉vT.ownBlock.toList):=hd fun b hb hm=>by have:=Ad a8 b (jC.1 hm);omega
    have bM:g<B:=by omega
    have aZ:pb<B:=by omega
    clear hB bd a8 bK;obtain⟨i0,c8,c9,ca,cb⟩:=Abi;have m1 : -9223372036854775808<=en*(k:Int):=by omega
    have m2:en*(k:Int)<=9223372036854775807:=by omega
    have m3 : -9223372036854775808<=av+en*(k:Int):=by have:=aU.o.1;omega
    have m4:av+en*(k:Int)<=9223372036854775807:=by have:=aU.o.2;omega
    have ck:part+k<=50000:=by omega
    generalize cf:part+k=pk at *;generalize aj:Tk.length=nt at *;have am:=hd aj
    have bN:nt<=60000:=by
     have h9:=aY.o;have h8:=congrArg List.length h9;rw[jG,jG,Qx,jS,am.o] at h8;omega
    clear aj;generalize a2:tcL bf (av+en*(k:Int)) inst pk false=news at *;have an:=hd a2;clear a2 az;generalize bn:Tk.flatMap tcC=ts at *;have b0:=hd bn;clear bn;go_upto_region 10 with fail
    refine rgW 31 vT.ownBlock.toList (fun p y=>vT.ownBlock=some p.block/\∃q,p.off=nt*5+q/\news[q]? = some y) [(29,Aq wq.heap.size news),(30,Bo B 202 5 nt (ts ++ news) (fun g=>vT.ownBlock=some g\/wq.heap.size<=g))] ?_ ?_
    ·refine Am.cons (Aq.stays fun b j u y hb hu hf=>?_) (Am.cons (Bo.stays fun g i x y _ hx hf=>?_) Am.nil)
     ·have:=(bL.o b hf.1).2;omega
     ·obtain⟨-,q,hq,hy⟩:=hf;simp only at hq;subst hq;rw[jM (by rw[aA.o];omega),aA.o,Nat.add_sub_cancel_left,hy] at hx;exact Option.some.inj hx
    simp only[TK]
    repeat(refine dE (fun wr nr hJ=>by(have qb:=(HB.o.ext hJ.1 aB.o).cell;have aD:=(HB.o.ext hJ.1 aB.o).lt;have qg:=hJ.1.held q0 (a6.o g bM);have aa:=jB wr _ qg;simp only at aa;have qn:=hJ.1.held q4 (a6.o pb aZ);have qf:=hJ.1.held q6 (a6.o pb aZ);have al:=jB wr _ qn;simp only at al;have qp:=(ah.o.ext hJ.1 aC.o).cell 0;have bO:=(ah.o.ext hJ.1 aC.o).lt);clear hJ;exact CL) ?_;simp only[PT])
    refine Eg (Aq wq.heap.size news) rfl rfl (fun wr nr hJ hf=>?_) ?_
    ·refine⟨wr.heap.size,.cells (tcL bf (av+en*(k:Int)) inst pk false).toArray 202,?_,Ext.size hJ.1,fun j u hu=>?_⟩
     ·refine As rfl _ _ _ _ (.agg (tcL bf (av+en*(k:Int)) inst pk false).toArray) ?_ ?_
      ·rfl
      ·exact Ze wr bf (av+en*(k:Int)) inst pk false
     ·rw[(jK wr 202 (tcL bf (av+en*(k:Int)) inst pk false).toArray).cell j];rw[<-an.o] at hu;rw[<-hu];simp
    intro (b8:Nat);simp only[PT];refine Lv B b8 93 202 i0 _ 5 40 vT nt 1 ts news (fun g=>vT.ownBlock=some g\/wq.heap.size<=g) _ _ rfl rfl rfl (by kernel_rfl) c8 c9 ca cb rfl (by decide) rfl rfl (by rw[<-an.o];rfl) (fun u hu=>?_) (fun w' n' hJ hf=>?_) aW (fun g hg hb=>.inl (jC.2 hg)) (fun g hg=>hg.imp And.left id) (fun g q u hg hb hu=>⟨hg,q,rfl,hu⟩) ?_ ?_ ?_
    ·rw[<-an.o] at hu;unfold tcL at hu;simp only[jE,jH,or_false] at hu;rcases hu with rfl|rfl|rfl|rfl|rfl<;>rfl
    ·have h8:(Aq wq.heap.size news).V b8 w':=Bd hf 29 (by kernel_rfl)
     exact⟨Ho aX.o hJ.2 fun g i x y hg hx hy=>by
      obtain⟨-,q,hq,-⟩:=hy;have h1:=(ils hx).1;simp only at hq;rw[aA.o] at h1;omega,h8.2⟩
    ·unfold maxLen;omega
    ·omega
    intro u9;simp only[PT];refine Aj (fun wz hJ hF=>?_)
    obtain⟨gz,cz⟩:=u9;have hz:(Bo B 202 5 nt (ts ++ news) (fun g=>vT.ownBlock=some g\/wq.heap.size<=g)).V (gz,cz) wz:=hF 30;have b1:Hd (wz.ownsRow B 202 5 (.slice (some gz) (nt+1) cz) (nt+1) (ts ++ news)):=hd hz.1;have cl:=hd hz.2;have aE:=hd hJ.1;clear hF hJ hz;dsimp only[Bo];have ao:=hd (HB.o.ext aE.o aB.o);have bP:=hd (ah.o.ext aE.o aC.o);have qb:=ao.o.cell;have qf:=ao.o.frozen;have aD:=ao.o.lt;have bQ:=hd (ao.o.set_' 2 (.slice (some gz) (nt+1) cz) #[cv,vL,.slice (some gz) (nt+1) cz] rfl);have aF:=hd (jL (b:=tb) (i:=2) (u:=.slice (some gz) (nt+1) cz) (.inl (by simp)) (jF [tb] wz))
    have bR:Hd (gz≠tb):=hd fun h=>by
     have:=Ad b1.o gz rfl;omega
    have ad:=hd (bP.o.ext aF.o (by rw[jA];omega));have bS:Hd (Ext (tb :: vT.ownBlock.toList) wq (wz.setCell ⟨tb,2,none⟩ (.slice (some gz) (nt+1) cz))):=hd ((aE.o.mono fun x hx=>.inl (jI _ hx)).step aF.o fun x hx=>.inl (by rw[jA.1 hx];exact jO ..));have bT:=hd (Ah b1.o aF.o (fun k hk=>by cases hk;rw[jA];exact bR.o));go_upto_region 11 with fail
    generalize World.setCell wz _ _=w9 at *;have ae:=hd (TrS.snoc (w:=wq) (w':=w9) (cv:=cv) (vL:=vL) (vT:=vT) (gz:=gz) (cz:=cz) ⟨bf,av+en*(k:Int),(inst:Int),(pk:Int),false⟩ htB aW bJ.o (by rw[am.o,b0.o];exact aX.o) bS.o (by rw[am.o];exact bQ.o) (by rw[am.o,b0.o,show tcC ⟨bf,av+en*(k:Int),(inst:Int),(pk:Int),false⟩=news from an.o];exact bT.o));clear qb qf aD;have qb:=ad.o.cell;have qf:=ad.o.frozen;have aD:=ad.o.lt;have bU:=hd (ad.o.set_' 0 (.int .i64 (pk+1)) #[(pk+1:Int)] rfl);have b2:=hd (jL (b:=pp) (i:=0) (u:=.int .i64 (pk+1)) (.inl (by simp)) (jF [pp] w9));have bV:=hd (ae.o.2.ext b2.o fun x hx=>by rw[jA.1 hx];exact⟨by omega,.inr ⟨_,ad.o⟩⟩);have bW:Hd (XB [tb] B wq (w9.setCell ⟨pp,0,none⟩ (.int .i64 (pk+1)))):=hd (ae.o.1.trans (XB.of b2.o fun x hx=>.inr (by rw[jA.1 hx];exact hpp)));have af:part+(k+1)=pk+1:=by omega
    have bX:Hd (Blk (w9.setCell ⟨pp,0,none⟩ (.int .i64 (pk+1))) pp 3 #[.int .i64 (part+(k+1):Nat)]):=hd (by rw[af];exact bU.o);clear af;go_wp2_with fail
    go_roundw
    case rel=>exact⟨k+1,by go_num,by omega,hd (HE.o.trans bW.o),hd (by rw[aY.o];exact bV.o),bX⟩
    case measure=>simp[intOf];omega
   ·
    have bY:k=X:=by omega
    subst bY;have ag:wq.cell? ⟨g,10,none⟩=some (.slice A ks.length cap):=HE.o.held (aw.o.cell 10) (a1.o g aq).1 (a1.o g aq).2;have aa:=jB wq _ ag;simp only at aa;have bZ:=hd (bB.o.trans HE.o);have c0:=hd (HE.o.env bE.o heB aS.o);generalize bo:ks.length=m at *;have aG:=hd bo;have cm:m<=1000000:=by have h1:=aO.o;omega
    clear bo;go_wp2_with fail
    clear ag aa;go_loopw [86] (fun i wr=>∃j:Nat,i=.int .i64 j/\j<=m/\Hd (XB [tb] B wq wr)/\Hd (TrS tb B cv K ((T ++ rdC env h inst part k) ++ Nb env inst (part+k) (ks.take j)) wr)/\Hd (Blk wr pp 3 #[.int .i64 (part+k+Fb (ks.take j):Nat)])) (fun i _=>(m-intOf i).toNat)
    case atStart=>exact⟨0,rfl,jQ _,hd (XB.refl _ _ _),hd (by simpa[Nb] using aJ.o),hd (by simpa[Fb] using ah.o)⟩
    case round=>
     obtain⟨j,rfl,hj,aK,aL,aM⟩:=hrel;rename World=>wj
     have aH:=hd (bZ.o.trans aK.o);by_cases cn:j<m
     ·have b3:(j:Int)<(m:Int):=by omega
      obtain⟨bb,g',rfl,be,bh⟩:=HK.o.at (i:=j) (by have:=aO.o;have:=aG.o;omega);have b4:=bt.o bb 0 rfl;have b5:w.cell? ⟨bb,j,none⟩=some (.pointer (some g')):=by have:=bh 0 _ rfl;rw[Nat.mul_one,Nat.add_zero] at this;exact this
      have qa:=aH.o.held b5 (a1.o bb b4).1 (a1.o bb b4).2;have c1:=jB wj _ qa;simp only at c1;obtain⟨x,hx⟩:∃x,ks[j]? = some x:=⟨_,jJ (show j<ks.length by have:=aG.o;omega)⟩;have a7:=ilm hx;have b6:=hd (Vi hx);have c2:=hd (Aem (env:=env) (inst:=inst) (part:=part+k) hx);have c3:Fb (ks.take (j+1))<=RL:=bH.o (j+1);rw[b6.o] at c3;have aI:=hd (HI.o _ a7 (bv.o _ a7) (bq.o j _ hx) g' _ _ wj aL.o (aH.o.cex bz.o bx (HS.o j g' _ be hx)) (aK.o.env c0.o heB aS.o) aM.o (by rw[jG,jG,Qx,Sz];omega) (by omega));unfold ptV at aI;have c4:=hd (jP (T ++ rdC env h inst part k) (Nb env inst (part+k) (ks.take j)) (rdT env inst (part+k+Fb (ks.take j)) x));clear be bh hx a7 b5;go_wp2_with fail
      refine aI.o.mono ?_
      rintro r w2 ⟨rfl,hE,bi,bj⟩;have c5:=hd (aK.o.trans hE);have c6:=hd bi;have c7:=hd bj;clear hE bi bj aI;go_wp2_with fail
      go_roundw
      case rel=>exact⟨j+1,by go_num,by omega,c5,hd (by rw[c2.o,<-c4.o];exact c6.o),hd (by rw[b6.o,<-Nat.add_assoc];exact c7.o)⟩
      case measure=>simp[intOf];omega
     ·have b3:j=m:=by omega
      subst b3;have b7:Hd (ks.take j=ks):=hd (List.take_of_length_le (by have:=aG.o;omega));go_wp2_with fail
      exact bodyPost_end (results_none rfl _ _ _) rfl ⟨rfl,aH.o,by rw[br.o,<-jP];rw[b7.o] at aL;exact aL.o,by rw[aN.o,<-Nat.add_assoc,<-bI.o];rw[b7.o] at aM;exact aM.o⟩
end
section
theorem Aha:∃i,prog.info? 98=some i/\i.zero=some (.agg (Hw 0 0))/\i.size=10/\i.bytes=80:=info_parts (show((prog).info? 98).map (fun i=>(i.zero,i.size,i.bytes))=some (some (.agg (Hw 0 0)),10,80) by kernel_rfl)
theorem Ahb (w:World)(no:Nat)(vs:List Int):(Instr.buildSlice 92 1 #[(0,.agg (Ek no vs))]).run prog w=.ok (.slice (some w.heap.size) 1 1) (w.alloc (.cells (Ek no vs) 98)):=by
 obtain⟨i0,a2,a6,a1,a7⟩:=Aha;refine run_buildSlice w _ _ 1 _ _ i0 _ underlying92 a2 a6 (by rw[a1];decide) (by rw[a1];decide) ?_
 rw[a1];have hz:((Array.range (1*10)).map (fun x=>(Value.agg (Hw 0 0)).cells[x % (Value.agg (Hw 0 0)).cells.size]!))=Hw 0 0:=by kernel_rfl
 rw[hz];simp[Instr.fill,Ek,Hw,Value.cells]
theorem Ai5 (K:List (Nat×List Int)):(K.flatMap kyL).length=K.length*10:=by
 induction K with
 | nil=>rfl
 | cons t T ih=>rw[List.flatMap_cons,jG,ih,List.length_cons,Nat.add_mul];simp[kyL,Ek];omega
theorem TrS.snocK {tb B:Nat}{cv:Value}{K:List (Nat×List Int)}{T:List Tch}{w w':World}{vL vT:Value}{gz cz:Nat}(t:Nat×List Int)(h0:tb<B)(h1:B<=w.heap.size)
  (h3:w.ownsRow B 98 10 vL K.length (K.flatMap kyL)) (h4:w.ownsRow B 202 5 vT T.length (T.flatMap tcC)) (hE:Ext (tb :: vL.ownBlock.toList) w w')
  (hB:Blk w' tb 95 #[cv,.slice (some gz) (K.length+1) cz,vT]) (hT:w'.ownsRow B 98 10 (.slice (some gz) (K.length+1) cz) (K.length+1) (K.flatMap kyL ++ kyL t)) :
  XB [tb] B w w'/\TrS tb B cv (K ++ [t]) T w':=by
 refine⟨XB.of hE fun x hx=>?_,h0,Nat.le_trans h1 hE.size,_,vT,hB,?_,Ah h4 hE fun k hk hm=>?_⟩
 ·rcases jE.1 hx with rfl|hx
  ·exact .inl (jA.2 rfl)
  ·exact .inr (Ad h3 x (jC.1 hx))
 ·rw[jG,jS,List.flatMap_append];simpa using hT
 ·rcases jE.1 hm with rfl|hm
  ·have:=Ad h4 _ hk;omega
  ·obtain⟨C,h6⟩:=Dm h4 hk;obtain⟨C',h7⟩:=Dm h3 (jC.1 hm);exact absurd (h6.type h7) (by decide)
theorem Xd {fn:Func}{u p:Tmp}(h:fn.results=#[.tmp u,.cell p 3])(tmps:Array Value)(w:World)(g:Nat)(x:Int)
  (hp:tmps.getD p undef=.pointer (some g)) (hg:Blk w g 3 #[x]):(results fn tmps).run prog w=.ok (.tuple #[tmps.getD u undef,x]) w:=by
 have hp':tmps[p]?.getD undef=.pointer (some g):=by simpa using hp
 have hc:=hg.cell 0;have hu:=run_underlying (P:=prog) underlying3;simp[results,h,hp',asAddr,loadVar,isAgg,Sem.run_bind,hu,go_sem,hc]
attribute [local irreducible] Bj
set_option maxRecDepth 100000 in
theorem Zk (tb B eb n g:Nat)(cv:Value)(K:List (Nat×List Int))(T:List Tch)(names:List ByteArray)(nb no:Nat)(vs:List Int)(h:SH)(w:World)
  (hT:TrS tb B cv K T w) (hS:Sy w n g names nb h no) (hV:Bn w eb vs) (hl:vs.length=names.length) (hnt:n<=tb) (heB:eb<B) (het:eb≠tb) (hK9:K.length<2000) (hT9:T.length+rdE h.val<=30000) :
  Calls prog 179 #[.pointer (some tb),ptV g,.slice (some eb) vs.length 8] w fun e w'=>
   e=.returned (.tuple #[(K.length:Nat),(rdE h.val:Nat)])/\XB [tb] B w w'/\TrS tb B cv (K ++ [(no,vs)]) (T ++ Tb (names.zip vs) h K.length) w':=by
 have ah:=hd hT;have aS:=hd hS;have aT:=hd hV;have HL:=hd hl;have ax:n<=B:=by have:=hT.1;omega
 have ay:=hT.1;have bm:=hS.gn;have az:Hd (∀x∈[tb],n<=x):=hd fun x hx=>by rw[jA.1 hx];exact hnt
 have aU:Hd (eb∉[tb]):=hd fun h=>het (jA.1 h)
 have bn:Hd (∀b,b<n->b<B/\b∉[tb]):=hd fun b hb=>⟨by omega,fun hm=>by rw[jA.1 hm] at hb;omega⟩
 have bo:=hT.2.1;clear hT hS hV hl;generalize aP:vs.length=d at *;have HD:=hd aP;clear aP;have ai:=hd ((jF [] w).alloc (.cells #[(0:Int)] 3));have aA:=hd (jK w 3 #[(0:Int)]);unfold ptV;go_enter func179,ntmps179
 go_upto_region 1 with fail
 have bp:(World.alloc w (.cells #[(0:Int)] 3)).heap.size=w.heap.size+1:=Ag _ _;generalize World.alloc w _=w1 at *;generalize br:w.heap.size=pp at *;have aB:Hd (XB [tb] B w w1):=hd (XB.of0 ai.o);have aC:=hd (ah.o.ext0 ai.o);have aD:=hd (aT.o.keep ai.o (by simp));have aE:=hd (aS.o.xb aB.o az.o ax);obtain⟨vL,vT,hB,a6,aL⟩:=aC.o.2.2;have aF:=aC.o.2.1;have HB:=hd hB;have aG:=hd a6;have aV:=hd aL;have aj:=hd (Ai5 K);have ak:Hd (tb∉vL.ownBlock.toList):=hd fun hm=>by have:=Ad a6 tb (jC.1 hm);omega
 have aW:Hd (∀q,vL.ownBlock=some q->B<=q/\q<w1.heap.size):=hd fun q hq=>by
  obtain⟨C,h6⟩:=Dm a6 hq;exact⟨Ad a6 q hq,h6.lt⟩
 have aX:Hd (pp∉vL.ownBlock.toList):=hd fun hm=>by
  obtain⟨C,h6⟩:=Dm a6 (jC.1 hm);exact absurd (h6.type aA.o) (by decide)
 have a7:Hd (∀b,b<B->b∉vL.ownBlock.toList):=hd fun b hb hm=>by have:=Ad a6 b (jC.1 hm);omega
 have aY:g<B:=by omega
 have aZ:=aE.o.no;have aH:=hd (fun W (hW:Ext vL.ownBlock.toList w1 W)=>Aek no eb vs W (aD.o.keep hW (a7.o eb heB)));rw[HD.o] at aH;clear hB a6 aL;obtain⟨i0,bi,bj,bk,bl⟩:=Aha;generalize ad:K.length=nt at *;have a8:=hd ad;clear ad;generalize a2:(Ek no vs).toList=news at *;have ae:=hd a2;clear a2;generalize aQ:K.flatMap kyL=ts at *;have aI:=hd aQ;clear aQ;refine rgW 13 vL.ownBlock.toList (fun p y=>vL.ownBlock=some p.block/\∃q,p.off=nt*10+q/\news[q]? = some y) [(10,Cx (.agg (Ek no vs))),(11,Aq w1.heap.size news),(12,Bo B 98 10 nt (ts ++ news) (fun g=>vL.ownBlock=some g\/w1.heap.size<=g))] ?_ ?_
 ·refine Am.cons Cx.stays (Am.cons (Aq.stays fun b j u y hb hu hf=>?_) (Am.cons (Bo.stays fun g i x y _ hx hf=>?_) Am.nil))
  ·have:=(aW.o b hf.1).2;omega
  ·obtain⟨-,q,hq,hy⟩:=hf;simp only at hq;subst hq;rw[jM (by rw[aj.o];omega),aj.o,Nat.add_sub_cancel_left,hy] at hx;exact Option.some.inj hx
 simp only[TK]
 repeat(refine dE (fun wr nr hJ=>by(have qb:=(HB.o.ext hJ.1 ak.o).cell;have aa:=(HB.o.ext hJ.1 ak.o).lt;have qg:=hJ.1.held aZ (a7.o g aY);have b0:=jB wr _ qg;simp only at b0);clear hJ;exact CL) ?_;simp only[PT])
 refine Lu (Cx (.agg (Ek no vs))) rfl rfl ?_ ?_
 ·refine EC fun wr nr hJ hf=>?_
  refine(aH.o wr hJ.1).mono ?_
  rintro e w' ⟨rfl,hE⟩;exact⟨(),rfl,trivial,hE⟩
 rintro⟨⟩;simp only[PT]
 repeat(refine dE (fun wr nr hJ=>by clear hJ;exact CL) ?_;simp only[PT])
 refine Eg (Aq w1.heap.size news) rfl rfl (fun wr nr hJ hf=>?_) ?_
 ·refine⟨wr.heap.size,.cells (Ek no vs) 98,?_,Ext.size hJ.1,fun j u hu=>?_⟩
  ·refine As rfl _ _ _ _ (.agg (Ek no vs)) ?_ ?_
   ·rfl
   ·exact Ahb wr no vs
  ·rw[(jK wr 98 (Ek no vs)).cell j];rw[<-ae.o] at hu;rw[<-hu];simp
 intro (b8:Nat);simp only[PT];refine Lv B b8 92 98 i0 _ 10 80 vL nt 1 ts news (fun g=>vL.ownBlock=some g\/w1.heap.size<=g) _ _ rfl rfl rfl (by kernel_rfl) bi bj bk bl rfl (by decide) rfl rfl (by rw[<-ae.o];rfl) (fun u hu=>?_) (fun w' n' hJ hf=>?_) aF (fun g hg hb=>.inl (jC.2 hg)) (fun g hg=>hg.imp And.left id) (fun g q u hg hb hu=>⟨hg,q,rfl,hu⟩) ?_ ?_ ?_
 ·rw[<-ae.o] at hu;unfold Ek at hu;simp only[jE,jH,or_false] at hu;rcases hu with rfl|rfl|rfl|rfl|rfl|rfl|rfl|rfl|rfl|rfl<;>rfl
 ·have h8:(Aq w1.heap.size news).V b8 w':=Bd hf 11 (by kernel_rfl)
  exact⟨Ho aG.o hJ.2 fun g i x y hg hx hy=>by
   obtain⟨-,q,hq,-⟩:=hy;have h1:=(ils hx).1;simp only at hq;rw[aj.o] at h1;omega,h8.2⟩
 ·unfold maxLen;omega
 ·omega
 intro u9;simp only[PT];refine Aj (fun wz hJ hF=>?_)
 obtain⟨gz,cz⟩:=u9;have hz:(Bo B 98 10 nt (ts ++ news) (fun g=>vL.ownBlock=some g\/w1.heap.size<=g)).V (gz,cz) wz:=hF 12;have aJ:Hd (wz.ownsRow B 98 10 (.slice (some gz) (nt+1) cz) (nt+1) (ts ++ news)):=hd hz.1;have bq:=hd hz.2;have al:=hd hJ.1;clear hF hJ hz;dsimp only[Bo];have af:=hd (HB.o.ext al.o ak.o);have b1:=hd (aA.o.ext al.o aX.o);have qb:=af.o.cell;have qf:=af.o.frozen;have aa:=af.o.lt;have am:=hd (af.o.set_' 1 (.slice (some gz) (nt+1) cz) #[cv,.slice (some gz) (nt+1) cz,vT] rfl);have an:=hd (jL (b:=tb) (i:=1) (u:=.slice (some gz) (nt+1) cz) (.inl (by simp)) (jF [tb] wz))
 have b2:Hd (gz≠tb):=hd fun h=>by
  have:=Ad aJ.o gz rfl;omega
 have b3:=hd (b1.o.ext an.o (by rw[jA];omega));have b4:Hd (Ext (tb :: vL.ownBlock.toList) w1 (wz.setCell ⟨tb,1,none⟩ (.slice (some gz) (nt+1) cz))):=hd ((al.o.mono fun x hx=>.inl (jI _ hx)).step an.o fun x hx=>.inl (by rw[jA.1 hx];exact jO ..));have b5:=hd (Ah aJ.o an.o (fun k hk=>by cases hk;rw[jA];exact b2.o));go_upto_region 2 with fail
 generalize World.setCell wz _ _=w9 at *;have a1:=hd (TrS.snocK (w:=w1) (w':=w9) (cv:=cv) (vL:=vL) (vT:=vT) (gz:=gz) (cz:=cz) (no,vs) ay aF (by rw[a8.o,aI.o];exact aG.o) aV.o b4.o (by rw[a8.o];exact am.o) (by rw[a8.o,aI.o,show kyL (no,vs)=news from ae.o];exact b5.o));clear qb qf aa;have qb:=am.o.cell;have aa:=am.o.lt;have b6:=hd (aB.o.trans a1.o.1);have ao:=hd (aE.o.xb a1.o.1 az.o ax);have b7:=hd (a1.o.1.env aD.o heB aU.o);have ap:=ao.o.fit;obtain⟨pb,po,vb,-,-,-,aw,aM⟩:=ao.o.src;have ab:=jB w9 _ aw;simp only at ab;have ag:=hd (Abl tb B eb n nb pp nt cv (K ++ [(no,vs)]) names vs (by rw[HD.o];exact HL.o) hnt ay heB het (by omega) h.val ao.o.val (by omega) vb T 0 w9 a1.o.2 aM b7.o b3.o (by omega) (by omega));rw[HD.o,Nat.zero_add] at ag;unfold ptV at ag aw;generalize aR:rdE h.val=rd at *;have aq:=hd aR;clear aM aR ap;go_wp2_with fail
 refine ag.o.mono ?_
 rintro r w2 ⟨rfl,hE,aN,aO⟩;have ba:=hd (b6.o.trans hE);have bb:=hd aN;have ac:=hd aO;clear hE aN aO ag qb aa aw ab;have qb:=ac.o.cell;have qf:=ac.o.frozen;have aa:=ac.o.lt;have bc:=hd (ac.o.set_' 0 rd #[rd] rfl);have aK:=hd (jL (b:=pp) (i:=0) (u:=.int .i64 rd) (.inl (by simp)) (jF [pp] w2));have bd:=hd (bb.o.ext aK.o fun x hx=>by rw[jA.1 hx];exact⟨by omega,.inr ⟨_,ac.o⟩⟩);have be:Hd (XB [tb] B w (w2.setCell ⟨pp,0,none⟩ rd)):=hd (ba.o.trans (XB.of aK.o fun x hx=>.inr (by rw[jA.1 hx];omega)));go_upto_region 4 with fail
 go_region
 have au:=hd ((jF [] (w2.setCell ⟨pp,0,none⟩ rd)).drew);have bf:=hd (be.o.trans (XB.of0 au.o));have ah:=hd (bd.o.ext0 au.o);have bh:=hd (bc.o.ext au.o (by simp));go_wp2_with fail
 exact bodyPost_ret (Xd rfl _ _ pp rd rfl bh.o) rfl ⟨by rw[a8.o,aq.o];rfl,bf.o,by rw[Tb,a8.o];exact ah.o⟩
end
section
theorem Ahc {a b r:Nat}(h:a<b):a*r+r<=b*r:=by
 have:=Nat.mul_le_mul_right r (show a+1<=b by omega);rw[Nat.add_mul,Nat.one_mul] at this;exact this
attribute [local irreducible] Bj
set_option maxRecDepth 100000 in
theorem Ahd (tb B eb n nb:Nat)(cv:Value)(Kk:List (Nat×List Int))(Tk:List Tch)(names:List ByteArray)(vs:List Int)(nk:Nat)(path:List Int)(gl L:List Nat)(AL:List Value)(g pb po:Nat)(CA:Option Addr)(cc:Nat)(BA:Option Addr)(bcap:Nat)(bgs:List Nat)(PA:Option Addr)(pc:Nat)(vv:Value)(h:SH)(bs:List St)(wq:World)
  (hT:TrS tb B cv Kk Tk wq) (hC:Af6 wq n L AL names path gl nk g h bs pb po CA cc BA bcap bgs PA pc vv) (hF:Fd nb names (.mk h bs)) (hk1:h.k=1) (hvec:h.vec=true) (hV:Bn wq eb vs) (hl:vs.length=names.length) (hnt:n<=tb) (hne:n<=eb) (heB:eb<B) (het:eb≠tb) (hfit:Fit Kk Tk (Ct (names.zip vs) h nk bs)) :
  Calls prog 181 #[.pointer (some tb),ptV g,.slice (some eb) vs.length 8] wq fun e w'=>
   e=.returned (.tuple #[])/\XB [tb,eb] B wq w'/\TrS tb B cv (Kk ++ (Ct (names.zip vs) h nk bs).map kyI) (Tk ++ Ji (names.zip vs) h Kk.length bs) w'/\Bn w' eb vs:=by
 have bA:=hd hT;have HC:=hd hC;have bC:=hd hF;have bD:=hd hV;have HL:=hd hl;have bE:=hd hfit;have c2:=hd hk1;have c3:=hV.1;have c4:=hT.nt.1;have bF:bgs.length<=1000000:=hC.row.1.1;have bG:bs.length<=1000000:=by have:=hC.len;omega
 have bH:=hfit.1;rw[Te] at bH
 have ac:Hd ((-100000<=h.lo/\h.lo<=100000)/\(-100000<=h.hi/\h.hi<=100000)/\(1<=h.step/\h.step<=100000)/\names.length<8):=hd (by
  cases hF with
  | loop _ _ _ _ _ _ h0 h1 h2 h3=>exact⟨h1,h2,h3,h0⟩
  | when _ _ _ h1=>omega
  | store _ _ h1=>omega)
 have b7:Hd (∀s∈bs,s.h.k=3):=hd (by
  cases hF with
  | loop _ _ _ _ _ _ _ _ _ _ h4=>exact h4 hvec
  | when _ _ _ h1=>omega
  | store _ _ h1=>omega)
 have c5:Ar h<=200000:=Fl ac.o.1 ac.o.2.1 ac.o.2.2.1;have b8:Hd (∀s∈bs,Fd nb (Aw names h) s):=hd (Dh.body HC.o bC.o).fd;have bI:Hd (Aw names h=names ++ [h.var]):=hd (ijp hk1);have ba:wq.cell? ⟨g,0,none⟩=some (.pointer (some ⟨pb,po,none⟩)):=HC.o.blk.cell 0;have aO:=HC.o.blk.lt;have aP:wq.cell? ⟨g,2,none⟩=some (.int .i64 (if h.k=1 then(Ar h:Int) else 0)):=HC.o.blk.cell 2;have bJ:wq.cell? ⟨g,4,none⟩=some (.slice BA bs.length bcap):=HC.o.blk.cell 4;rw[ijp hk1] at aP;have a7:=HC.o.gn;have a8:=HC.o.pn;have bK:=hd aP;have bb:=hd ba;have c6:=hd bJ;clear hT hC hF hV hl hfit hk1 hvec aP ba;generalize bx:vs.length=d at *;have HD:=hd bx;clear bx;generalize aI:names.zip vs=env at *;have aQ:=hd aI;clear aI
 have ai:Hd (∀x∈[tb,eb],n<=x):=hd fun x hx=>by
  rcases jE.1 hx with rfl|hx
  ·exact hnt
  ·rw[jA.1 hx];exact hne
 have ap:n<=B:=by omega
 have a2:Hd (∀b,b<n->b<B/\b∉[tb,eb]):=hd fun b hb=>⟨by omega,fun hm=>by have:=ai.o b hm;omega⟩
 have bc:Hd (eb∉[tb]):=hd fun h=>het (jA.1 h)
 have bd:Hd (∀a b:World,XB [tb] B a b->XB [tb,eb] B a b):=hd fun _ _ h=>h.mono fun x hx=>.inl (by rw[jA.1 hx];exact jO ..)
 have c7:Hd (∀x∈[tb],n<=x):=hd fun x hx=>by rw[jA.1 hx];exact hnt
 have ay:Hd (∀(K:List (Nat×List Int)) (T:List Tch) (a b:World),TrS tb B cv K T a->Ext [eb] a b->TrS tb B cv K T b):=hd fun K T a b hT hE=>hT.ext hE fun x hx=>by rw[jA.1 hx];exact⟨het,.inl heB⟩
 have az:Hd (∀j:Nat,j<Ar h->Bdd (Dj h j)/\Bh env h j=(names ++ [h.var]).zip (vs ++ [Dj h j])):=hd fun j hj=>⟨Es ac.o.1 ac.o.2.1 ac.o.2.2.1 hj,by rw[<-aQ.o];exact Kd (by rw[HD.o];exact HL.o) h j⟩
 unfold ptV;go_enter func181,ntmps181
 go_wp2_with fail
 go_loopw [16] (fun i wx=>∃a:Nat,i=.int .i64 a/\a<=bs.length/\Hd (XB [tb,eb] B wq wx)/\Hd (TrS tb B cv (Kk ++ (Ct env h nk (bs.take a)).map kyI) (Tk ++ Ji env h Kk.length (bs.take a)) wx)/\Hd (Bn wx eb vs)) (fun i _=>(bs.length-intOf i).toNat)
 case atStart=>exact⟨0,rfl,jQ _,hd (XB.refl _ _ _),hd (by simpa[Ct,Ji] using bA.o),bD⟩
 case round=>
  obtain⟨a,rfl,ha,af,aM,bo⟩:=hrel;rename World=>wa
  by_cases c1:a<bs.length
  ·have c8:(a:Int)<(bs.length:Int):=by omega
   obtain⟨bB,g1,rfl,bp,aE⟩:=HC.o.row.1.at (i:=a) (by have:=HC.o.len;omega);have be:wq.cell? ⟨bB,a,none⟩=some (.pointer (some g1)):=by have:=aE 0 _ rfl;rw[Nat.mul_one,Nat.add_zero] at this;exact this
   have bf:=HC.o.row.2 bB 0 rfl;have bL:wa.cell? ⟨bB,a,none⟩=some (.pointer (some g1)):=af.o.held be (a2.o bB bf).1 (a2.o bB bf).2;have aR:=jB wa _ bL;simp only at aR;obtain⟨s1,aF⟩:∃s1,bs[a]? = some s1:=⟨_,jJ c1⟩;have aa:=ilm aF;have aA:=b7.o _ aa
   have aq:Ab (bs.take a)=a:=by
    rw[Ns (fun s hs=>b7.o s (List.mem_of_mem_take hs)) fun s hs=>b8.o s (List.mem_of_mem_take hs),List.length_take];omega
   have aj:=HC.o.kid a g1 s1 bp aF;rw[aq] at aj;obtain⟨h1,b1⟩:=s1;obtain⟨ci,cj,ck,cl,cm,bq,bX,cn,co,cp,br⟩:=aj.open_;have bh:=hd (Sy.of br aA (b8.o _ aa));rw[bI.o] at bh;have aS:=hd (Mp (env:=env) (h:=h) (no:=nk) aF);have bi:=hd (Aeq (env:=env) (h:=h) (c:=Kk.length) aF)
   have bj:Hd ((Kk ++ (Ct env h nk (bs.take a)).map kyI).length=Kk.length+a*Ar h):=hd (by
    rw[jG,List.length_map,Te,List.length_take,Nat.min_eq_left (by omega)])
   have bM:Fit (Kk ++ (Ct env h nk (bs.take a)).map kyI) (Tk ++ Ji env h Kk.length (bs.take a)) (Fz env h (nk+a) (.mk h1 b1) (Ar h)):=by
    have h9:=Lo env h nk (bs.take (a+1)) (bs.drop (a+1));rw[List.take_append_drop,aS.o] at h9;have h8:=bE.o;rw[h9] at h8;exact h8.pre.post (Td env h _ nk _)
   obtain⟨bY,b3⟩:=bM;rw[Zh] at b3;rw[show(Fz env h (nk+a) (.mk h1 b1) (Ar h)).length=Ar h by simp[Fz]] at bY;have bN:Hd (Kk ++ (Ct env h nk (bs.take (a+1))).map kyI=(Kk ++ (Ct env h nk (bs.take a)).map kyI) ++ (Fz env h (nk+a) (.mk h1 b1) (Ar h)).map kyI):=hd (by rw[aS.o,List.map_append,jP]);have bO:Hd (Tk ++ Ji env h Kk.length (bs.take (a+1))=((Tk ++ Ji env h Kk.length (bs.take a)) ++ Qj env h h1 (Kk ++ (Ct env h nk (bs.take a)).map kyI).length (Ar h)) ++ Qk env h h1 (Kk ++ (Ct env h nk (bs.take a)).map kyI).length (Ar h)):=hd (by rw[bi.o,bj.o];simp only[jP];rfl);clear aj aa aA aq bp aE be aF aS bi bj br;simp only[St.h] at b3;generalize Kk ++ (Ct env h nk (bs.take a)).map kyI=Ka at *;generalize Tk ++ Ji env h Kk.length (bs.take a)=Ta at *;generalize bZ:nk+a=na at *;have bk:Ar h*(rdE h1.val+1)=Ar h*rdE h1.val+Ar h:=by rw[Nat.mul_add,Nat.mul_one]
   rw[bk] at b3;clear bk;have q2:wa.cell? ⟨g,2,none⟩=some (.int .i64 (Ar h)):=af.o.held bK.o (a2.o g a7).1 (a2.o g a7).2;have c9:g<wa.heap.size:=by have:=af.o.size;omega
   obtain⟨vL,vT,b4,bt,-⟩:=aM.o.2.2;obtain⟨LA,lc,rfl,-,-⟩:=Bg bt;have ca:=b4.cell;have cb:=b4.lt;clear b4 bt;generalize bz:Ar h=mn at *;have ce:=hd bz;clear bz;have au:=hd (bh.o.xb af.o ai.o ap);have Q2:=hd q2;go_wp2_with fail
   clear q2;go_loopw [29] (fun i wx=>∃j:Nat,i=.int .i64 j/\j<=mn/\Hd (XB [tb,eb] B wa wx)/\Hd (TrS tb B cv (Ka ++ (Fz env h na (.mk h1 b1) j).map kyI) (Ta ++ Qj env h h1 Ka.length j) wx)/\Hd (Bn wx eb vs)) (fun i _=>(mn-intOf i).toNat)
   case atStart=>exact⟨0,rfl,jQ _,hd (XB.refl _ _ _),hd (by rw[Mo,Vo,List.map_nil,List.append_nil,List.append_nil];exact aM.o),bo⟩
   case round=>
    obtain⟨j,rfl,hj,ab,ag,ah⟩:=hrel;rename World=>wj
    by_cases aN:j<mn
    ·
     have bP:(j:Int)<(mn:Int):=by omega
     have aJ:=ab;have ad:Hd (XB [tb,eb] B wq wj):=hd (af.o.trans ab.o);have ak:=au;have HVJ':=az.o j aN;have a6:=hd HVJ'.1;have aw:=hd HVJ'.2;have q0:wj.cell? ⟨g,0,none⟩=some (.pointer (some ⟨pb,po,none⟩)):=ad.o.held bb.o (a2.o g a7).1 (a2.o g a7).2;have ql:wj.cell? ⟨pb,po+2,none⟩=some (.int .i64 h.lo):=ad.o.held (HC.o.src 2 _ rfl) (a2.o pb a8).1 (a2.o pb a8).2;have qs:wj.cell? ⟨pb,po+4,none⟩=some (.int .i64 h.step):=ad.o.held (HC.o.src 4 _ rfl) (a2.o pb a8).1 (a2.o pb a8).2
     have aK:Hd (∀W,Ext [eb] wj W->W.cell? ⟨g,0,none⟩=some (.pointer (some ⟨pb,po,none⟩))/\W.cell? ⟨g,0,none⟩=some (.pointer (some ⟨pb,po,none⟩))/\g<W.heap.size/\W.cell? ⟨pb,po+2,none⟩=some (.int .i64 h.lo)/\W.cell? ⟨pb,po+4,none⟩=some (.int .i64 h.step)/\pb<W.heap.size):=hd fun W hW=>by
      have a1:∀b,b<n->b∉[eb]:=fun b hb hm=>by rw[jA] at hm;omega
      have h1:=hW.size;have h2:=ad.o.size;have h3:=HC.o.blk.lt;have h4:=jB wj _ ql;exact⟨hW.held q0 (a1 g a7),hW.held q0 (a1 g a7),by omega,hW.held ql (a1 pb a8),hW.held qs (a1 pb a8),by simp only at h4;omega⟩
     have aT:d<8:=by have:=ac.o.2.2.2;have:=HL.o;have:=HD.o;omega
     have aU:=ac.o.1;have al:=hd (ak.o.xb (D:=[tb,eb]) (B:=B) aJ.o ai.o ap);unfold Dj at a6 aw;generalize b6:h.lo=lo at *;generalize aq:h.step=st at *;clear q0 ql qs HVJ';have m1 : -9223372036854775808<=(j:Int)*st:=by have:=a6.o.1;omega
     have m2:(j:Int)*st<=9223372036854775807:=by have:=a6.o.2;omega
     have m3 : -9223372036854775808<=lo+(j:Int)*st:=by have:=a6.o.1;omega
     have m4:lo+(j:Int)*st<=9223372036854775807:=by have:=a6.o.2;omega
     clear b6 aq;have bQ:Hd (Fz env h na (.mk h1 b1) (j+1)=Fz env h na (.mk h1 b1) j ++ [⟨na,h1,Bh env h j⟩]):=hd (Jw env h na (.mk h1 b1) j);have bR:=hd (Vp env h h1 Ka.length j);have bl:(Ka ++ (Fz env h na (.mk h1 b1) j).map kyI).length=Ka.length+j:=by simp[Fz]
     have cf:=Ahc (r:=rdE h1.val) aN;have aL:(Ta ++ Qj env h h1 Ka.length j).length=Ta.length+j*rdE h1.val:=by rw[jG,Tc]
     have bS:=hd (jP Ka ((Fz env h na (.mk h1 b1) j).map kyI) [kyI ⟨na,h1,Bh env h j⟩]);have am:=hd (jP Ta (Qj env h h1 Ka.length j) (Tb (Bh env h j) h1 (Ka.length+j)));have bm:=hd bl;clear bl;generalize cq:j*rdE h1.val=mr at *;generalize cr:mn*rdE h1.val=mm at *;go_upto_region 7 with fail
     refine rgW 22 [eb] (Nr eb d (lo+(j:Int)*st)) [(20,Aq wj.heap.size [.int .i64 (lo+(j:Int)*st)]),(21,Is eb (d+1) (vs ++ [lo+(j:Int)*st]))] ?_ ?_
     ·refine Am.cons (Aq.stays fun b j u y hb hu hf=>?_) (Am.cons (Is.stays fun y hy=>?_) Am.nil)
      ·have h9:b=eb:=hf.1;have:=ah.o.lt;omega
      ·rw[<-HD.o,jM (jD _),Nat.sub_self] at hy;cases hy
       rfl
     simp only[TK]
     repeat(refine dE (fun wr nr hJ=>by(obtain⟨q0,-,aO,ql,qs,bu⟩:=aK.o wr hJ.1);clear hJ;exact CL) ?_;simp only[PT])
     refine Eg (Aq wj.heap.size [.int .i64 (lo+(j:Int)*st)]) rfl rfl (fun wr nr hJ hf=>?_) ?_
     ·refine⟨wr.heap.size,.cells #[.int .i64 (lo+(j:Int)*st)] 3,?_,Ext.size hJ.1,Cs _ _ _ ((jK wr 3 #[.int .i64 (lo+(j:Int)*st)]).cell 0)⟩
      (go_simp;try go_bits)
      first|rfl|exact⟨rfl,rfl⟩
     intro (b23:Nat);simp only[PT];refine Iq eb b23 1 d vs (lo+(j:Int)*st) _ _ rfl rfl rfl rfl rfl HD.o aT a6.o (fun wr nr hJ hf=>?_) ?_
     ·have aV:(Aq wj.heap.size [.int .i64 (lo+(j:Int)*st)]).V b23 wr:=Bd hf 20 (by kernel_rfl);exact⟨ah.o.rw hJ.2 fun y hy=>by have:=(ils hy).1;have:=HD.o;omega,aV.2 0 _ rfl⟩
     simp only[PT]
     repeat(refine dE (fun wr nr hJ=>by clear hJ;exact CL) ?_;simp only[PT])
     refine Aj (fun w5 hJ hF=>?_)
     have an:Hd (Bn w5 eb (vs ++ [lo+(j:Int)*st])):=hd (hF 21);have aB:=hd hJ.1;clear hF hJ;have aC:Hd (XB [tb,eb] B wj w5):=hd (XB.of aB.o fun x hx=>.inl (by rw[jA.1 hx];simp));have aW:=hd (ay.o _ _ _ _ ag.o aB.o);have ae:=hd (Zk tb B eb n g1 cv _ _ (names ++ [h.var]) nb na (vs ++ [lo+(j:Int)*st]) h1 w5 aW.o (al.o.xb aC.o ai.o ap) an.o (by simp;have:=HL.o;have:=HD.o;omega) hnt heB het (by rw[bm.o];omega) (by rw[aL];omega));rw[jG,jS,HD.o,<-aw.o,bm.o] at ae;unfold ptV at ae;have bT:Hd ((na,vs ++ [lo+(j:Int)*st])=kyI ⟨na,h1,Bh env h j⟩):=hd (by rw[aw.o,Ac4 (by simp;have:=HL.o;have:=HD.o;omega)]);clear aL;go_wp2_with fail
     refine ae.o.mono ?_
     rintro e w7 ⟨rfl,ao,aH⟩;have aX:=hd (bd.o _ _ ao);have aD:=hd aH;have aY:=hd (ao.env an.o.pop heB bc.o);clear ao aH ae an;go_wp2_with fail
     go_roundw
     case rel=>exact⟨j+1,by go_num,by omega,hd ((ab.o.trans aC.o).trans aX.o),hd (by rw[bQ.o,bR.o,List.map_append,<-am.o,List.map_singleton,<-bS.o];rw[bT.o] at aD;exact aD.o),aY⟩
     case measure=>simp[intOf];omega
    ·
     have aZ:=hd (show j=mn by omega);rw[aZ.o] at ag;clear hj;have q2':wj.cell? ⟨g,2,none⟩=some (.int .i64 mn):=ab.o.held Q2.o (a2.o g a7).1 (a2.o g a7).2;have q2l':=jB wj _ q2';simp only at q2l';have cg:(Ta ++ Qj env h h1 Ka.length mn).length<=21000:=by rw[jG,Tc];omega
     generalize cs:Ka ++ (Fz env h na (.mk h1 b1) mn).map kyI=K1 at *;generalize c0:Ta ++ Qj env h h1 Ka.length mn=T1 at *;rename World=>w1
     go_wp2_with fail
     clear q2' q2l';go_loopw [60] (fun i wx=>∃j:Nat,i=.int .i64 j/\j<=mn/\Hd (XB [tb,eb] B wa wx)/\Hd (TrS tb B cv K1 (T1 ++ Qk env h h1 Ka.length j) wx)/\Hd (Bn wx eb vs)) (fun i _=>(mn-intOf i).toNat)
     case atStart=>exact⟨0,rfl,jQ _,ab,hd (by rw[Aen,List.append_nil];exact ag.o),ah⟩
     case round=>
      clear ag ah ab;obtain⟨j,rfl,hj,ab,ag,ah⟩:=hrel;rename World=>wj
      by_cases aN:j<mn
      ·
       have bP:(j:Int)<(mn:Int):=by omega
       have aJ:=ab;have ad:Hd (XB [tb,eb] B wq wj):=hd (af.o.trans ab.o);have ak:=au;obtain⟨-,-,bv,-,-,-,ax,aG⟩:=(au.o.xb aJ.o ai.o ap).src;unfold ptV at ax;have b0:=au.o.gn;have bU:=hd aG;clear aG;have HVJ':=az.o j aN;have a6:=hd HVJ'.1;have aw:=hd HVJ'.2;have q0:wj.cell? ⟨g,0,none⟩=some (.pointer (some ⟨pb,po,none⟩)):=ad.o.held bb.o (a2.o g a7).1 (a2.o g a7).2;have ql:wj.cell? ⟨pb,po+2,none⟩=some (.int .i64 h.lo):=ad.o.held (HC.o.src 2 _ rfl) (a2.o pb a8).1 (a2.o pb a8).2;have qs:wj.cell? ⟨pb,po+4,none⟩=some (.int .i64 h.step):=ad.o.held (HC.o.src 4 _ rfl) (a2.o pb a8).1 (a2.o pb a8).2
       have aK:Hd (∀W,Ext [eb] wj W->W.cell? ⟨g,0,none⟩=some (.pointer (some ⟨pb,po,none⟩))/\W.cell? ⟨g,0,none⟩=some (.pointer (some ⟨pb,po,none⟩))/\g<W.heap.size/\W.cell? ⟨pb,po+2,none⟩=some (.int .i64 h.lo)/\W.cell? ⟨pb,po+4,none⟩=some (.int .i64 h.step)/\pb<W.heap.size/\W.cell? ⟨g1,16,none⟩=some (.pointer (some bv))/\g1<W.heap.size):=hd fun W hW=>by
        have a1:∀b,b<n->b∉[eb]:=fun b hb hm=>by rw[jA] at hm;omega
        have h1:=hW.size;have h2:=ad.o.size;have h3:=HC.o.blk.lt;have h5:=jB wj _ ax;have h4:=jB wj _ ql;exact⟨hW.held q0 (a1 g a7),hW.held q0 (a1 g a7),by omega,hW.held ql (a1 pb a8),hW.held qs (a1 pb a8),by simp only at h4;omega,hW.held ax (a1 g1 b0),by simp only at h5;omega⟩
       have aT:d<8:=by have:=ac.o.2.2.2;have:=HL.o;have:=HD.o;omega
       have aU:=ac.o.1;have al:=hd (ak.o.xb (D:=[tb,eb]) (B:=B) aJ.o ai.o ap);unfold Dj at a6 aw;generalize b6:h.lo=lo at *;generalize aq:h.step=st at *;clear q0 ql qs ax HVJ';have m1 : -9223372036854775808<=(j:Int)*st:=by have:=a6.o.1;omega
       have m2:(j:Int)*st<=9223372036854775807:=by have:=a6.o.2;omega
       have m3 : -9223372036854775808<=lo+(j:Int)*st:=by have:=a6.o.1;omega
       have m4:lo+(j:Int)*st<=9223372036854775807:=by have:=a6.o.2;omega
       clear b6 aq;have bV:=hd (Aeo env h h1 Ka.length j);have aL:(T1 ++ Qk env h h1 Ka.length j).length<=100000:=by rw[jG,Zg];omega
       have am:=hd (jP T1 (Qk env h h1 Ka.length j) [Zf (Bh env h j) h1 (Ka.length+j)]);have bn:=hd (fun W (hW:Ext [eb] wj W)=>Vj (names ++ [h.var]) nb h1.val au.o.val (by have:=au.o.fit;omega) (names ++ [h.var]) bv n [] W (bU.o.step hW (fun x hx=>.inr (by rw[jA.1 hx];exact hne)) (jD n) fun y hy=>.inl hy));unfold ptV at bn;have ch:Ka.length+j<=2000:=by omega
       go_upto_region 12 with fail
       refine rgW 30 [eb] (Nr eb d (lo+(j:Int)*st)) [(20,Aq wj.heap.size [.int .i64 (lo+(j:Int)*st)]),(21,Is eb (d+1) (vs ++ [lo+(j:Int)*st])),(29,Cx (.int .i64 (rdE h1.val:Nat)))] ?_ ?_
       ·refine Am.cons (Aq.stays fun b j u y hb hu hf=>?_) (Am.cons (Is.stays fun y hy=>?_) (Am.cons Cx.stays Am.nil))
        ·have h9:b=eb:=hf.1;have:=ah.o.lt;omega
        ·rw[<-HD.o,jM (jD _),Nat.sub_self] at hy;cases hy
         rfl
       simp only[TK]
       repeat(refine dE (fun wr nr hJ=>by(obtain⟨q0,-,aO,ql,qs,bu,ax,b5⟩:=aK.o wr hJ.1);clear hJ;exact CL) ?_;simp only[PT])
       refine Eg (Aq wj.heap.size [.int .i64 (lo+(j:Int)*st)]) rfl rfl (fun wr nr hJ hf=>?_) ?_
       ·refine⟨wr.heap.size,.cells #[.int .i64 (lo+(j:Int)*st)] 3,?_,Ext.size hJ.1,Cs _ _ _ ((jK wr 3 #[.int .i64 (lo+(j:Int)*st)]).cell 0)⟩
        (go_simp;try go_bits)
        first|rfl|exact⟨rfl,rfl⟩
       intro (b23:Nat);simp only[PT];refine Iq eb b23 1 d vs (lo+(j:Int)*st) _ _ rfl rfl rfl rfl rfl HD.o aT a6.o (fun wr nr hJ hf=>?_) ?_
       ·have aV:(Aq wj.heap.size [.int .i64 (lo+(j:Int)*st)]).V b23 wr:=Bd hf 20 (by kernel_rfl);exact⟨ah.o.rw hJ.2 fun y hy=>by have:=(ils hy).1;have:=HD.o;omega,aV.2 0 _ rfl⟩
       simp only[PT]
       repeat(refine dE (fun wr nr hJ=>by(obtain⟨q0,-,aO,ql,qs,bu,ax,b5⟩:=aK.o wr hJ.1);clear hJ;exact CL) ?_;simp only[PT])
       refine Lu (Cx (.int .i64 (rdE h1.val:Nat))) rfl rfl ?_ ?_
       ·refine EC fun wr nr hJ hf=>?_
        refine(bn.o wr hJ.1).mono ?_
        rintro e w' ⟨rfl,hE⟩;exact⟨(),rfl,trivial,hE⟩
       rintro⟨⟩;simp only[PT]
       repeat(refine dE (fun wr nr hJ=>by clear hJ;exact CL) ?_;simp only[PT])
       refine Aj (fun w5 hJ hF=>?_)
       have an:Hd (Bn w5 eb (vs ++ [lo+(j:Int)*st])):=hd (hF 21);have aB:=hd hJ.1;clear hF hJ;have aC:Hd (XB [tb,eb] B wj w5):=hd (XB.of aB.o fun x hx=>.inl (by rw[jA.1 hx];simp));have aW:=hd (ay.o _ _ _ _ ag.o aB.o);have ae:=hd (Ac3 tb B eb n g1 cv _ _ (names ++ [h.var]) nb na (vs ++ [lo+(j:Int)*st]) h1 ((Ka.length:Int)+(j:Int)) (rdE h1.val:Nat) w5 aW.o (al.o.xb aC.o ai.o ap) an.o (by simp;have:=HL.o;have:=HD.o;omega) hnt heB aL);rw[jG,jS,HD.o,<-aw.o] at ae;unfold ptV at ae;have bW:Hd ((⟨h1.buf,evA (Bh env h j) h1.at_,(Ka.length:Int)+(j:Int),(rdE h1.val:Nat),true⟩:Tch)=Zf (Bh env h j) h1 (Ka.length+j)):=hd (by simp[Zf]);go_wp2_with fail
       refine ae.o.mono ?_
       rintro e w7 ⟨rfl,ao,aH⟩;have aX:=hd (bd.o _ _ ao);have aD:=hd aH;have aY:=hd (ao.env an.o.pop heB bc.o);clear ao aH ae an;go_wp2_with fail
       go_roundw
       case rel=>exact⟨j+1,by go_num,by omega,hd ((ab.o.trans aC.o).trans aX.o),hd (by rw[bV.o,<-am.o];rw[bW.o] at aD;exact aD.o),aY⟩
       case measure=>simp[intOf];omega
      ·have aZ:=hd (show j=mn by omega);rw[aZ.o] at ag;clear hj;go_wp2_with fail
       go_roundw
       case rel=>exact⟨a+1,by go_num,by omega,hd (af.o.trans ab.o),hd (by rw[bN.o,bO.o];exact ag.o),ah⟩
       case measure=>simp[intOf];omega
  ·have b2:a=bs.length:=by omega
   subst b2;rw[List.take_length] at aM;go_wp2_with fail
   exact bodyPost_end (results_none rfl _ _ _) rfl ⟨rfl,af.o,aM.o,bo.o⟩
end
end Go.Proofs.YtfppibmloloakaaGreatDoor
