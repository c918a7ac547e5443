import Derived.Test.YtfppibmloloakaaGreatDoorP20
namespace Go.Proofs.YtfppibmloloakaaGreatDoor
open Go.RowKit Go.Proofs.Tryz
set_option linter.all false
def XB (D:List Nat)(B:Nat)(w w':World):Prop:=∃S:List Nat,(∀x∈S,x∈D\/B<=x)/\Ext S w w'
theorem XB.of {S D:List Nat}{B:Nat}{w w':World}(hE:Ext S w w')(hS:∀x∈S,x∈D\/B<=x):XB D B w w':=⟨S,hS,hE⟩
theorem XB.of0 {D:List Nat}{B:Nat}{w w':World}(hE:Ext [] w w'):XB D B w w':=⟨[],by simp,hE⟩
theorem XB.refl (D:List Nat)(B:Nat)(w:World):XB D B w w:=XB.of0 (Ext.refl _ _)
theorem XB.trans {D:List Nat}{B:Nat}{a b c:World}(h:XB D B a b)(k:XB D B b c):XB D B a c:=by
 obtain⟨S,hS,hE⟩:=h;obtain⟨T,hT,hF⟩:=k;exact⟨S ++ T,fun x hx=>(List.mem_append.1 hx).elim (hS x) (hT x),(hE.mono fun x hx=>.inl (List.mem_append_left _ hx)).trans (hF.mono fun x hx=>.inl (List.mem_append_right _ hx))⟩
theorem XB.mono {D D':List Nat}{B:Nat}{a b:World}(h:XB D B a b)(hD:∀x∈D,x∈D'\/B<=x):XB D' B a b:=by
 obtain⟨S,hS,hE⟩:=h;exact⟨S,fun x hx=>(hS x hx).elim (hD x) .inr,hE⟩
theorem XB.size {D:List Nat}{B:Nat}{a b:World}(h:XB D B a b):a.heap.size<=b.heap.size:=by
 obtain⟨S,hS,hE⟩:=h;exact hE.size
theorem XB.held {D:List Nat}{B:Nat}{w w':World}(h:XB D B w w'){p:Addr}{v:Value}(hv:w.cell? p=some v)(hp:p.block<B)(hn:p.block∉D):w'.cell? p=some v:=by
 obtain⟨S,hS,hE⟩:=h;exact hE.held hv fun hm=>(hS _ hm).elim hn fun h=>by omega
theorem XB.env {D:List Nat}{B:Nat}{w w':World}(h:XB D B w w'){eb:Nat}{vs:List Int}(hv:EnvR w eb vs)(hp:eb<B)(hn:eb∉D):EnvR w' eb vs:=by
 obtain⟨S,hS,hE⟩:=h;exact hv.keep hE fun hm=>(hS _ hm).elim hn fun h=>by omega
theorem XB.cex {D:List Nat}{B n:Nat}{w w':World}(h:XB D B w w')(hn:∀x∈D,n<=x)(hB:n<=B){names:List ByteArray}{g:Nat}{e:Ex}(k:CEx w n [] names g e):CEx w' n [] names g e:=by
 obtain⟨S,hS,hE⟩:=h;exact k.step hE (fun x hx=>.inr ((hS x hx).elim (hn x) fun h=>by omega)) (Nat.le_refl n) fun y hy=>.inl hy
theorem XB.lst {D:List Nat}{B n:Nat}{w w':World}(h:XB D B w w')(hn:∀x∈D,n<=x)(hB:n<=B){nb:Nat}{L:List Nat}{AL:List Value}{names:List ByteArray}{xs:List Int}{gl:List Nat}{no:Nat}{A:Option Addr}{gs:List Nat}{l:List St}(k:LstAt w n nb L AL names xs gl no A gs l):LstAt w' n nb L AL names xs gl no A gs l:=by
 obtain⟨S,hS,hE⟩:=h;exact k.step hE fun x hx=>(hS x hx).elim (hn x) fun h=>by omega
structure Tch where
 buf:Int
 at_:Int
 inst:Int
 part:Int
 wr:Bool
def tcC (t:Tch):List Value:=tcL t.buf t.at_ t.inst t.part t.wr
def kyL (k:Nat×List Int):List Value:=(keyA k.1 k.2).toList
theorem own_blks {w:World}{B e s n:Nat}{v:Value}{l:List Value}(h:w.ownsRow B e s v n l){g:Nat}(hg:v.ownBlock=some g):∃C,Blk w g e C:=by
 rcases h.2 with⟨h1,_⟩|⟨g',cap,cur,h1,_,h3,_⟩
 ·rw[h1] at hg;cases hg
 ·rw[h1] at hg;cases hg;exact⟨cur,h3⟩
def TrS (tb B:Nat)(cv:Value)(K:List (Nat×List Int))(T:List Tch)(w:World):Prop:=
 tb<B/\B<=w.heap.size/\∃vL vT:Value,Blk w tb 95 #[cv,vL,vT]/\w.ownsRow B 98 10 vL K.length (K.flatMap kyL)/\w.ownsRow B 202 5 vT T.length (T.flatMap tcC)
theorem TrS.ext {tb B:Nat}{cv:Value}{K:List (Nat×List Int)}{T:List Tch}{w w':World}(h:TrS tb B cv K T w){S:List Nat}(hE:Ext S w w')(hS:∀x∈S,x≠tb/\(x<B\/∃C,Blk w x 3 C)):TrS tb B cv K T w':=by
 obtain⟨h0,h1,vL,vT,h2,h3,h4⟩:=h;refine⟨h0,Nat.le_trans h1 hE.size,vL,vT,h2.ext hE fun hm=>(hS _ hm).1 rfl,own_ext h3 hE fun k hk hm=>?_,own_ext h4 hE fun k hk hm=>?_⟩
 ·rcases(hS _ hm).2 with h5|⟨C,h5⟩
  ·have:=own_base h3 k hk;omega
  ·obtain⟨C',h6⟩:=own_blks h3 hk;exact absurd (h6.type h5) (by decide)
 ·rcases(hS _ hm).2 with h5|⟨C,h5⟩
  ·have:=own_base h4 k hk;omega
  ·obtain⟨C',h6⟩:=own_blks h4 hk;exact absurd (h6.type h5) (by decide)
theorem TrS.ext0 {tb B:Nat}{cv:Value}{K:List (Nat×List Int)}{T:List Tch}{w w':World}(h:TrS tb B cv K T w)(hE:Ext [] w w'):TrS tb B cv K T w':=h.ext hE (by simp)
theorem TrS.nt {tb B:Nat}{cv:Value}{K:List (Nat×List Int)}{T:List Tch}{w:World}(h:TrS tb B cv K T w):tb<B/\B<=w.heap.size:=⟨h.1,h.2.1⟩
structure StoB (w:World)(n g:Nat)(names:List ByteArray)(nb:Nat)(h:SH)(no:Nat):Prop where
 gn:g<n
 src:∃(pb po vb:Nat),pb<n/\w.cell? ⟨g,0,none⟩=some (.pointer (some ⟨pb,po,none⟩))/\w.cell? ⟨pb,po+8,none⟩=some (.int .i64 h.buf)/\w.cell? ⟨g,16,none⟩=some (ptV vb)/\CEx w n [] names vb h.val
 line:∀(j:Nat) (v:Value),(lnArr h.at_.base (coefS names h.at_.ts)).toList[j]? = some v->w.cell? ⟨g,7+j,none⟩=some v
 no:w.cell? ⟨g,5,none⟩=some (.int .i64 no)
 aff:affE names h.at_=0
 val:exprE names nb h.val=0
 fit:parts h.val<=32
theorem StoB.xb {w w':World}{n g:Nat}{names:List ByteArray}{nb:Nat}{h:SH}{no:Nat}(k:StoB w n g names nb h no){D:List Nat}{B:Nat}(hX:XB D B w w')(hn:∀x∈D,n<=x)(hB:n<=B):StoB w' n g names nb h no:=by
 have hno:∀b,b<n->b<B/\b∉D:=fun b hb=>⟨by omega,fun hm=>by have:=hn b hm;omega⟩
 obtain⟨pb,po,vb,h1,h2,h3,h4,h5⟩:=k.src;exact⟨k.gn,⟨pb,po,vb,h1,hX.held h2 (hno g k.gn).1 (hno g k.gn).2,hX.held h3 (hno pb h1).1 (hno pb h1).2,hX.held h4 (hno g k.gn).1 (hno g k.gn).2,hX.cex hn hB h5⟩,fun j v hv=>hX.held (k.line j v hv) (hno g k.gn).1 (hno g k.gn).2,hX.held k.no (hno g k.gn).1 (hno g k.gn).2,k.aff,k.val,k.fit⟩
theorem StoB.of {w:World}{n nb:Nat}{L:List Nat}{AL:List Value}{names:List ByteArray}{path:List Int}{gl:List Nat}{no g:Nat}{h:SH}{b:List St}{pb po:Nat}{CA:Option Addr}{cc:Nat}{A:Option Addr}{cap:Nat}{gs:List Nat}{PA:Option Addr}{pc:Nat}{vv:Value}(k:CStF w n L AL names path gl no g h b pb po CA cc A cap gs PA pc vv)(hk:h.k=3)(hF:Fd nb names (.mk h b)):StoB w n g names nb h no:=by
 obtain⟨vb,LA,lc,rfl,hx,-,-,-⟩:=k.val hk;have hs:=StoAt.of k hk hF;have hb:=k.blk
 have hf:parts h.val<=32:=by
  cases hF with
  | loop _ _ _ h1=>omega
  | when _ _ _ h1=>omega
  | store _ _ h1 h2 h3 h4 h5 h6=>have:=(fits_iff.1 h6).1;omega
 exact⟨k.gn,⟨pb,po,vb,k.pn,hb.cell 0,k.src 8 _ rfl,hb.cell 16,hx⟩,hs.line,hs.no,hs.aff,hs.val,hf⟩
theorem wrt_any (tb B eb n g:Nat)(cv:Value)(K:List (Nat×List Int))(T:List Tch)(names:List ByteArray)(nb no:Nat)(vs:List Int)(h:SH)(inst part:Int)(w:World)
  (hT:TrS tb B cv K T w) (hS:StoB w n g names nb h no) (hV:EnvR w eb vs) (hl:vs.length=names.length) (hn:n<=tb) (he:eb<B) (hT5:T.length<=100000) :
  Calls Tryz.prog 180 #[.pointer (some ⟨tb,0,none⟩),ptV g,.slice (some ⟨eb,0,none⟩) vs.length 8,.int .i64 inst,.int .i64 part] w fun e w'=>
   e=.returned (.tuple #[])/\XB [tb] B w w'/\TrS tb B cv K (T ++ [⟨h.buf,evA (names.zip vs) h.at_,inst,part,true⟩]) w':=by
 obtain⟨h0,h1,vL,vT,h2,h3,h4⟩:=hT;obtain⟨pb,po,vb,k1,k2,k3,k4,k5⟩:=hS.src;have hno:∀b,b<B->b∉vT.ownBlock.toList:=fun b hb hm=>by have:=own_base h4 b (Option.mem_toList.1 hm);omega
 have hgn:=hS.gn;refine(write_any tb g eb B T.length pb po cv vL vT _ names vs h inst part w h2 h4 h1 h0 hT5 (fun W hW=>⟨hW.held k2 (hno g (by omega)),hW.held k3 (hno pb (by omega)),fun j v hv=>hW.held (hS.line j v hv) (hno g (by omega)),hV.keep hW (hno eb he)⟩) hS.aff hl).mono ?_
 rintro e w' ⟨h5,gz,cz,hE,hB,hT',hg⟩;refine⟨h5,XB.of hE fun x hx=>?_,h0,Nat.le_trans h1 hE.size,vL,_,hB,own_ext h3 hE fun k hk hm=>?_,?_⟩
 ·rcases List.mem_cons.1 hx with rfl|hx
  ·exact .inl (List.mem_singleton.2 rfl)
  ·exact .inr (own_base h4 x (Option.mem_toList.1 hx))
 ·rcases List.mem_cons.1 hm with rfl|hm
  ·have:=own_base h3 _ hk;omega
  ·obtain⟨C,h6⟩:=own_blks h3 hk;obtain⟨C',h7⟩:=own_blks h4 (Option.mem_toList.1 hm);exact absurd (h6.type h7) (by decide)
 ·rw[List.length_append,List.length_singleton,List.flatMap_append];simpa[tcC] using hT'
def rdC (env:Env)(h:EH)(inst:Nat)(part k:Nat):List Tch:=(List.range k).map fun(i:Nat)=>⟨h.buf,evA env h.at_+h.n*(i:Int),(inst:Int),((part+i:Nat):Int),false⟩
mutual
def rdT (env:Env)(inst part:Nat):Ex->List Tch|.mk h ks=>rdC env h inst part (rdX h) ++ rdTL env inst (part+rdX h) ks
def rdTL (env:Env)(inst part:Nat):List Ex->List Tch | []=>[]|e :: r=>rdT env inst part e ++ rdTL env inst (part+rdE e) r
end
theorem rdC_zero (env:Env)(h:EH)(inst part:Nat):rdC env h inst part 0=[]:=rfl
theorem rdC_succ (env:Env)(h:EH)(inst part k:Nat):rdC env h inst part (k+1)=rdC env h inst part k ++ [⟨h.buf,evA env h.at_+h.n*(k:Int),(inst:Int),((part+k:Nat):Int),false⟩]:=by
 unfold rdC;rw[List.range_succ];simp
theorem rdC_len (env:Env)(h:EH)(inst part k:Nat):(rdC env h inst part k).length=k:=by simp[rdC]
mutual
theorem rdT_len (env:Env)(inst:Nat):∀(part:Nat) (e:Ex),(rdT env inst part e).length=rdE e
 | part,.mk h ks=>by simp only[rdT,rdE,List.length_append,rdC_len,rdTL_len env inst _ ks]
theorem rdTL_len (env:Env)(inst:Nat):∀(part:Nat) (l:List Ex),(rdTL env inst part l).length=rdEL l
 | part,[]=>rfl
 | part,e :: r=>by simp only[rdTL,rdEL,List.length_append,rdT_len env inst part e,rdTL_len env inst _ r]
end
theorem rdTL_append (env:Env)(inst:Nat)(b:List Ex):∀(a:List Ex) (part:Nat),rdTL env inst part (a ++ b)=rdTL env inst part a ++ rdTL env inst (part+rdEL a) b
 | [],part=>by simp[rdTL,rdEL]
 | e :: a,part=>by simp only[List.cons_append,rdTL,rdEL,rdTL_append env inst b a,List.append_assoc,Nat.add_assoc]
theorem rdTL_take {env:Env}{inst part:Nat}{l:List Ex}{j:Nat}{e:Ex}(h:l[j]? = some e):rdTL env inst part (l.take (j+1))=rdTL env inst part (l.take j) ++ rdT env inst (part+rdEL (l.take j)) e:=by
 rw[List.take_add_one,h,rdTL_append];simp[rdTL]
def tchI (env:Env)(h:SH)(c:Nat):List Tch:=rdT env c 0 h.val
def tchW (env:Env)(h:SH)(c:Nat):Tch:=⟨h.buf,evA env h.at_,(c:Int),(rdE h.val:Nat),true⟩
def rowR (env:Env)(h s:SH)(c k:Nat):List Tch:=catN k fun j=>tchI (envS env h j) s (c+j)
def rowW (env:Env)(h s:SH)(c k:Nat):List Tch:=(List.range k).map fun j=>tchW (envS env h j) s (c+j)
theorem rowR_zero (env:Env)(h s:SH)(c:Nat):rowR env h s c 0=[]:=rfl
theorem rowW_zero (env:Env)(h s:SH)(c:Nat):rowW env h s c 0=[]:=rfl
theorem rowR_succ (env:Env)(h s:SH)(c k:Nat):rowR env h s c (k+1)=rowR env h s c k ++ tchI (envS env h k) s (c+k):=catN_succ ..
theorem rowW_succ (env:Env)(h s:SH)(c k:Nat):rowW env h s c (k+1)=rowW env h s c k ++ [tchW (envS env h k) s (c+k)]:=by unfold rowW;rw[List.range_succ];simp
theorem rowR_len (env:Env)(h s:SH)(c k:Nat):(rowR env h s c k).length=k*rdE s.val:=by
 induction k with
 | zero=>simp[rowR_zero]
 | succ k ih=>rw[rowR_succ,List.length_append,ih,tchI,rdT_len,Nat.add_mul,Nat.one_mul]
theorem rowW_len (env:Env)(h s:SH)(c k:Nat):(rowW env h s c k).length=k:=by simp[rowW]
def tchV (env:Env)(h:SH)(c:Nat):List St->List Tch
 | []=>[]
 | s :: r=>rowR env h s.h c (manyS h) ++ rowW env h s.h c (manyS h) ++ tchV env h (c+manyS h) r
mutual
def tchS (env:Env)(no c:Nat):St->List Tch
 | .mk h b=>if h.k=3 then tchI env h c ++ [tchW env h c] else if h.k=2 then(if holdsS env h then tchL env no c b else [])
   else if h.vec then tchV env h c b else((List.range (manyS h)).map fun k=>tchL (envS env h k) no (c+(catN k fun j=>instL (envS env h j) no b).length) b).flatten
def tchL (env:Env)(no c:Nat):List St->List Tch
 | []=>[]
 | s :: r=>tchS env no c s ++ tchL env (no+storesS s) (c+(instS env no s).length) r
end
theorem tchS_store {env:Env}{no c:Nat}{h:SH}{b:List St}(hk:h.k=3):tchS env no c (.mk h b)=tchI env h c ++ [tchW env h c]:=by rw[tchS,if_pos hk]
theorem tchS_when {env:Env}{no c:Nat}{h:SH}{b:List St}(hk:h.k=2):tchS env no c (.mk h b)=if holdsS env h then tchL env no c b else []:=by rw[tchS,if_neg (by omega),if_pos hk]
theorem tchS_vec {env:Env}{no c:Nat}{h:SH}{b:List St}(hk:h.k=1)(hv:h.vec=true):tchS env no c (.mk h b)=tchV env h c b:=by rw[tchS,if_neg (by omega),if_neg (by omega),if_pos hv]
theorem tchS_for {env:Env}{no c:Nat}{h:SH}{b:List St}(hk:h.k=1)(hv:h.vec=false):tchS env no c (.mk h b)=catN (manyS h) fun k=>tchL (envS env h k) no (c+(catN k fun j=>instL (envS env h j) no b).length) b:=by
 rw[tchS,if_neg (by omega),if_neg (by omega),if_neg (by simp[hv])];rfl
theorem tchV_append (env:Env)(h:SH)(b:List St):∀(a:List St) (c:Nat),tchV env h c (a ++ b)=tchV env h c a ++ tchV env h (c+a.length*manyS h) b
 | [],c=>by simp[tchV]
 | s :: a,c=>by
  simp only[List.cons_append,tchV,tchV_append env h b a,List.append_assoc,List.length_cons];congr 4
  rw[Nat.add_mul];omega
theorem tchV_take {env:Env}{h:SH}{c:Nat}{l:List St}{j:Nat}{s:St}(hj:l[j]? = some s):tchV env h c (l.take (j+1))=tchV env h c (l.take j) ++ (rowR env h s.h (c+j*manyS h) (manyS h) ++ rowW env h s.h (c+j*manyS h) (manyS h)):=by
 have h1:=(List.getElem?_eq_some_iff.1 hj).1;rw[List.take_add_one,hj,tchV_append,List.length_take,Nat.min_eq_left (by omega)];simp[tchV]
theorem tchL_append (env:Env)(b:List St):∀(a:List St) (no c:Nat),tchL env no c (a ++ b)=tchL env no c a ++ tchL env (no+storesL a) (c+(instL env no a).length) b
 | [],no,c=>by simp[tchL,storesL,instL]
 | s :: a,no,c=>by simp only[List.cons_append,tchL,storesL,instL,tchL_append env b a,List.append_assoc,List.length_append,Nat.add_assoc]
theorem tchL_take {env:Env}{no c:Nat}{l:List St}{j:Nat}{s:St}(h:l[j]? = some s):tchL env no c (l.take (j+1))=tchL env no c (l.take j) ++ tchS env (no+storesL (l.take j)) (c+(instL env no (l.take j)).length) s:=by
 rw[List.take_add_one,h,tchL_append];simp[tchL]
theorem sumI_append (a b:List Inst):sumI (a ++ b)=sumI a+sumI b:=by simp[sumI]
theorem sumI_row (env:Env)(h:SH)(no:Nat)(s:St)(k:Nat):sumI (rowI env h no s k)=k*(rdE s.h.val+1):=by
 induction k with
 | zero=>simp[rowI_zero,sumI]
 | succ k ih=>rw[rowI_succ,sumI_append,ih,Nat.add_mul,Nat.one_mul];simp[sumI]
theorem tchV_len (env:Env)(h:SH):∀(b:List St) (no c:Nat),(tchV env h c b).length=sumI (vecI env h no b)
 | [],no,c=>by simp[tchV,vecI,sumI]
 | s :: b,no,c=>by
  have h1:vecI env h no (s :: b)=rowI env h no s (manyS h) ++ vecI env h (no+1) b:=rfl;rw[h1,sumI_append,sumI_row,<-tchV_len env h b (no+1) (c+manyS h)];simp only[tchV,List.length_append,rowR_len,rowW_len,Nat.mul_add,Nat.mul_one]
theorem tchL_len_of {env:Env}(l:List St)(ih:∀s∈l,∀no c,(tchS env no c s).length=sumI (instS env no s)):∀no c,(tchL env no c l).length=sumI (instL env no l):=by
 induction l with
 | nil=>intro no c;simp[tchL,instL,sumI]
 | cons s r ihr=>
  intro no c;simp only[tchL,instL,List.length_append,sumI_append,ih s (List.mem_cons_self ..),ihr fun s hs=>ih s (List.mem_cons_of_mem _ hs)]
theorem tchS_len:∀(s:St) (env:Env) (no c:Nat),(tchS env no c s).length=sumI (instS env no s):=by
 refine st_ind fun h b ih=>?_
 intro env no c;have hl:∀env no c,(tchL env no c b).length=sumI (instL env no b):=fun env=>tchL_len_of b fun s hs no c=>ih s hs env no c
 rw[tchS,instS];split
 ·simp[tchI,rdT_len,sumI]
 split
 ·split
  ·exact hl ..
  ·simp[sumI]
 split
 ·exact tchV_len ..
 ·have key:∀m,(catN m fun k=>tchL (envS env h k) no (c+(catN k fun j=>instL (envS env h j) no b).length) b).length=sumI (catN m fun k=>instL (envS env h k) no b):=by
   intro m
   induction m with
   | zero=>simp[catN_zero,sumI]
   | succ m ihm=>rw[catN_succ,catN_succ,List.length_append,sumI_append,ihm,hl]
  exact key _
theorem tchL_len (env:Env)(no c:Nat)(l:List St):(tchL env no c l).length=sumI (instL env no l):=tchL_len_of l (fun s _=>tchS_len s env) no c
def kyI (i:Inst):Nat×List Int:=(i.no,i.env.map Prod.snd)
theorem kyI_zip {names:List ByteArray}{vs:List Int}(hl:vs.length=names.length)(no:Nat)(h:SH):kyI ⟨no,h,names.zip vs⟩=(no,vs):=by
 simp only[kyI];rw[List.map_snd_zip (by omega)]
def Fit (K:List (Nat×List Int))(T:List Tch)(l:List Inst):Prop:=K.length+l.length<=2000/\T.length+sumI l<=20000
theorem Fit.pre {K:List (Nat×List Int)}{T:List Tch}{a b:List Inst}(h:Fit K T (a ++ b)):Fit K T a:=by
 obtain⟨h1,h2⟩:=h;rw[List.length_append] at h1;rw[sumI_append] at h2;exact⟨by omega,by omega⟩
theorem Fit.post {K:List (Nat×List Int)}{T ta:List Tch}{a b:List Inst}(h:Fit K T (a ++ b))(hl:ta.length=sumI a):Fit (K ++ a.map kyI) (T ++ ta) b:=by
 obtain⟨h1,h2⟩:=h;rw[List.length_append] at h1;rw[sumI_append] at h2;exact⟨by simp only[List.length_append,List.length_map];omega,by simp only[List.length_append,hl];omega⟩
theorem Fit.list {K:List (Nat×List Int)}{T:List Tch}{env:Env}{no:Nat}{l:List St}(h:Fit K T (instL env no l)){k:Nat}{s:St}(hs:l[k]? = some s):Fit (K ++ (instL env no (l.take k)).map kyI) (T ++ tchL env no K.length (l.take k)) (instS env (no+storesL (l.take k)) s):=by
 have h1:=instL_append env no (l.take (k+1)) (l.drop (k+1));rw[List.take_append_drop,instL_take hs] at h1;rw[h1] at h;exact h.pre.post (tchL_len ..)
theorem Fit.cat {K:List (Nat×List Int)}{T ta:List Tch}{n j:Nat}{f:Nat->List Inst}(h:Fit K T (catN n f))(hj:j<n)(hl:ta.length=sumI (catN j f)):Fit (K ++ (catN j f).map kyI) (T ++ ta) (f j):=by
 obtain⟨r,hr⟩:=catN_more f (show j+1<=n by omega);rw[hr,catN_succ] at h;exact h.pre.post hl
def tchF (env:Env)(h:SH)(no c:Nat)(b:List St)(j:Nat):List Tch:=catN j fun k=>tchL (envS env h k) no (c+(catN k fun i=>instL (envS env h i) no b).length) b
theorem tchF_zero (env:Env)(h:SH)(no c:Nat)(b:List St):tchF env h no c b 0=[]:=rfl
theorem tchF_succ (env:Env)(h:SH)(no c:Nat)(b:List St)(j:Nat):tchF env h no c b (j+1)=tchF env h no c b j ++ tchL (envS env h j) no (c+(catN j fun i=>instL (envS env h i) no b).length) b:=catN_succ ..
theorem tchF_len (env:Env)(h:SH)(no c:Nat)(b:List St):∀j,(tchF env h no c b j).length=sumI (catN j fun i=>instL (envS env h i) no b)
 | 0=>by simp[tchF_zero,catN_zero,sumI]
 | j+1=>by rw[tchF_succ,catN_succ,List.length_append,sumI_append,tchF_len env h no c b j,tchL_len]
theorem vecI_len (env:Env)(h:SH):∀(b:List St) (no:Nat),(vecI env h no b).length=b.length*manyS h
 | [],no=>by simp[vecI]
 | s :: b,no=>by
  have h1:vecI env h no (s :: b)=rowI env h no s (manyS h) ++ vecI env h (no+1) b:=rfl;rw[h1,List.length_append,vecI_len env h b,List.length_cons,Nat.add_mul,Nat.one_mul];simp[rowI];omega
section
theorem TrS.snoc {tb B:Nat}{cv:Value}{K:List (Nat×List Int)}{T:List Tch}{w w':World}{vL vT:Value}{gz cz:Nat}(t:Tch)(h0:tb<B)(h1:B<=w.heap.size)
  (h3:w.ownsRow B 98 10 vL K.length (K.flatMap kyL)) (h4:w.ownsRow B 202 5 vT T.length (T.flatMap tcC)) (hE:Ext (tb :: vT.ownBlock.toList) w w')
  (hB:Blk w' tb 95 #[cv,vL,.slice (some ⟨gz,0,none⟩) (T.length+1) cz]) (hT:w'.ownsRow B 202 5 (.slice (some ⟨gz,0,none⟩) (T.length+1) cz) (T.length+1) (T.flatMap tcC ++ tcC t)) :
  XB [tb] B w w'/\TrS tb B cv K (T ++ [t]) w':=by
 refine⟨XB.of hE fun x hx=>?_,h0,Nat.le_trans h1 hE.size,vL,_,hB,own_ext h3 hE fun k hk hm=>?_,?_⟩
 ·rcases List.mem_cons.1 hx with rfl|hx
  ·exact .inl (List.mem_singleton.2 rfl)
  ·exact .inr (own_base h4 x (Option.mem_toList.1 hx))
 ·rcases List.mem_cons.1 hm with rfl|hm
  ·have:=own_base h3 _ hk;omega
  ·obtain⟨C,h6⟩:=own_blks h3 hk;obtain⟨C',h7⟩:=own_blks h4 (Option.mem_toList.1 hm);exact absurd (h6.type h7) (by decide)
 ·rw[List.length_append,List.length_singleton,List.flatMap_append];simpa using hT
theorem tcs_len (T:List Tch):(T.flatMap tcC).length=T.length*5:=by
 induction T with
 | nil=>rfl
 | cons t T ih=>rw[List.flatMap_cons,List.length_append,ih,List.length_cons,Nat.add_mul];simp[tcC,tcL];omega
attribute [local irreducible] relAt
set_option maxHeartbeats 16000000 in
set_option maxRecDepth 100000 in
theorem treads_any (tb B eb n nb pp inst:Nat)(cv:Value)(K:List (Nat×List Int))(names:List ByteArray)(vs:List Int)(hl:vs.length=names.length)(hnt:n<=tb)(htB:tb<B)(heB:eb<B)(het:eb≠tb)(hpp:B<=pp):∀e:Ex,exprE names nb e=0->parts e<=1000000->∀(g:Nat) (T:List Tch) (part:Nat) (w:World),
  TrS tb B cv K T w->CEx w n [] names g e->EnvR w eb vs->Blk w pp 3 #[.int .i64 part]->T.length+rdE e<=50000->part+rdE e<=50000->
  Calls Tryz.prog 211 #[.pointer (some ⟨tb,0,none⟩),ptV g,.slice (some ⟨eb,0,none⟩) vs.length 8,.int .i64 inst,.pointer (some ⟨pp,0,none⟩)] w fun r w'=>
   r=.returned (.tuple #[])/\XB [tb] B w w'/\TrS tb B cv K (T ++ rdT (names.zip vs) inst part e) w'/\Blk w' pp 3 #[.int .i64 (part+rdE e:Nat)]:=by
 refine ex_ind fun h ks ih=>?_
 intro hx hp g T part w hT hC hV hP hb1 hb2;have HI:=hd ih;have HO:=hd (ExOk.of hx);have HT:=hd hT;have HV:=hd hV;have HPP:=hd hP;have HL:=hd hl
 have HPL:=hd (fun j e (hj:ks[j]? = some e)=>(show parts e<=1000000 by
  have h1:=partsL_take hj;have h2:partsL (ks.take (j+1))<=partsL ks:=partsL_le;rw[parts] at hp;omega))
 have HRD:Hd (rdE (.mk h ks)=rdX h+rdEL ks):=hd (by rw[rdE]);have HRT:Hd (rdT (names.zip vs) inst part (.mk h ks)=rdC (names.zip vs) h inst part (rdX h) ++ rdTL (names.zip vs) inst (part+rdX h) ks):=hd (by rw[rdT]);rw[HRD.o] at hb1 hb2
 obtain⟨pb,po,A,cap,gs,hg,hp',hpn,hk,hkn,hgl,hs,hgn⟩:∃(pb po:Nat) (A:Option Addr) (cap:Nat) (gs:List Nat),Blk w g 271 (ceArr pb po h.at_.base (coefS names h.at_.ts) (.slice A ks.length cap))/\(∀(j:Nat) (v:Value),(exH h ks.length)[j]? = some v->w.cell? ⟨pb,po+j,none⟩=some v)/\pb<n/\SeqIn w A 1 ptC gs/\(∀b o,A=some ⟨b,o,none⟩->b<n)/\gs.length=ks.length/\(∀(i g':Nat) (e':Ex),gs[i]? = some g'->ks[i]? = some e'->CEx w n [] names g' e')/\g<n:=by
  cases hC with
  | mk _ _ _ pb po A cap gs hg hg2 hp hp2 hk hk2 hl hs=>exact⟨pb,po,A,cap,gs,hg,hp,hp2.1,hk,fun b o hA=>(hk2 b o hA).1,hl,hs,hg2.1⟩
 have HG:=hd hg;have HP:=hd hp';have HK:=hd hk;have HKN:=hd hkn;have HGL:=hd hgl;have HS:=hd hs;have hn9:gs.length<=1000000:=HK.o.1
 have HRX:Hd (h.k=4->(rdX h:Int)=h.m):=hd fun h4=>by
  have:=(HO.o.one h4).2.2.1;unfold rdX;rw[if_neg (by omega),if_pos h4];omega
 have HR3:Hd (h.k=3->rdX h=1):=hd fun h3=>by unfold rdX;rw[if_pos h3]
 have HR0:Hd (h.k≠3->h.k≠4->rdX h=0):=hd fun h3 h4=>by unfold rdX;rw[if_neg h3,if_neg h4]
 have HEN:Hd ((h.k=3\/h.k=4)->∀j:Nat,j<rdX h->0<=h.n*(j:Int)/\h.n*(j:Int)<=100000*262144):=hd fun hh j hj=>by
  rcases hh with h3|h4
  ·rw[HR3.o h3] at hj;have:j=0:=by omega
   subst this;simp
  ·obtain⟨-,⟨n1,n2⟩,⟨m1,m2⟩,-⟩:=HO.o.one h4;have:=HRX.o h4;exact⟨Int.mul_nonneg (by omega) (by omega),Int.mul_le_mul (by omega) (by omega) (by omega) (by omega)⟩
 have HKX:=hd (HO.o.kids);have hnB:n<=B:=by omega
 have HNS:Hd (∀b,b<n->b<B/\b∉[tb]):=hd fun b hb=>⟨by omega,fun hm=>by rw[List.mem_singleton.1 hm] at hb;omega⟩
 have HMT:Hd (∀x∈[tb],n<=x):=hd fun x hx=>by rw[List.mem_singleton.1 hx];exact hnt
 have HTE:Hd (eb∉[tb]):=hd fun h=>het (List.mem_singleton.1 h)
 have HLn:Hd (∀(j:Nat) (v:Value),(lnArr h.at_.base (coefS names h.at_.ts)).toList[j]? = some v->w.cell? ⟨g,1+j,none⟩=some v):=hd fun j v hv=>by
  rw[HG.o.cell];have h9:=(List.getElem?_eq_some_iff.1 hv).1;have:j=0\/j=1\/j=2\/j=3\/j=4\/j=5\/j=6\/j=7\/j=8:=by simp[lnArr] at h9;omega
  rcases this with rfl|rfl|rfl|rfl|rfl|rfl|rfl|rfl|rfl<;>exact hv
 clear ih hx hT hC hV hP hg hp' hk hkn hgl hs hp hl;have HAFF:=hd (aff_any g 1 names h.at_ eb vs w HLn.o HV.o HO.o.aff HL.o)
 have HBD:Hd (-100000000000<=evA (names.zip vs) h.at_/\evA (names.zip vs) h.at_<=100000000000):=hd (by
  rw[<-HO.o.aff.val HL.o];exact lnV_bdd HO.o.aff HV.o.2.1 HV.o.1)
 generalize hd':vs.length=d at *;have HD:=hd hd';clear hd';generalize henv:names.zip vs=env at *;have HENV:=hd henv;clear henv;have hgl:=HG.o.lt;unfold ptV;go_enter Tryz.func211,Tryz.ntmps211
 go_wp2_with fail
 refine HAFF.o.mono ?_
 rintro e w1 ⟨rfl,hE⟩;have HE1:=hd hE;have HX1:Hd (XB [tb] B w w1):=hd (XB.of0 hE);have HT1:=hd (HT.o.ext0 hE);have HP1:=hd (HPP.o.ext hE (by simp));have HV1:=hd (HV.o.keep hE (by simp));have HG1:=hd (HG.o.ext hE (by simp));have qg0:w1.cell? ⟨g,0,none⟩=some (.pointer (some ⟨pb,po,none⟩)):=HG1.o.cell 0;have qgl:=HG1.o.lt;have qk:w1.cell? ⟨pb,po,none⟩=some (.int .i64 h.k):=HE1.o.held (HP.o 0 _ rfl) (by simp);have qm:w1.cell? ⟨pb,po+5,none⟩=some (.int .i64 h.m):=HE1.o.held (HP.o 5 _ rfl) (by simp);have qn:w1.cell? ⟨pb,po+4,none⟩=some (.int .i64 h.n):=HE1.o.held (HP.o 4 _ rfl) (by simp);have qb:w1.cell? ⟨pb,po+6,none⟩=some (.int .i64 h.buf):=HE1.o.held (HP.o 6 _ rfl) (by simp);have HQ1:Hd (w1.cell? ⟨g,0,none⟩=some (.pointer (some ⟨pb,po,none⟩))/\w1.cell? ⟨pb,po+4,none⟩=some (.int .i64 h.n)/\w1.cell? ⟨pb,po+6,none⟩=some (.int .i64 h.buf)):=hd ⟨qg0,qn,qb⟩;have qpl:=World.block_lt_of_cell? w1 _ qk;simp only at qpl;clear hE HAFF HLn qn qb;generalize hav:evA env h.at_=av at *;have HAV:=hd hav;clear hav;have HRCS:=hd (fun k=>rdC_succ env h inst part k);rw[HAV.o] at HRCS;generalize hX:rdX h=X at *;generalize hen:h.n=en at *;generalize hbf:h.buf=bf at *
 have HE34:Hd (0<X->h.k=3\/h.k=4):=hd fun h0=>by
  by_cases h3:h.k=3
  ·exact .inl h3
  ·by_cases h4:h.k=4
   ·exact .inr h4
   ·have:=HR0.o h3 h4;omega
 go_upto_block 0 with fail
 go_cut [11] (fun s wx=>s=.int .i64 (X:Nat)/\wx=w1)
 case first=>
  by_cases h3:h.k=3
  ·have hx:=HR3.o h3;have e3:(h.k==3)=true:=by simpa using h3
   clear h3;generalize h.k=hk at *;go_wp2_with fail
   go_meet
   exact⟨by rw[hx];rfl,rfl⟩
  ·by_cases h4:h.k=4
   ·have hx:=HRX.o h4;have e3:(h.k==3)=false:=by simpa using h3
    have e4:(h.k==4)=true:=by simpa using h4
    have HXX:=hd hx;clear h3 h4 hx;generalize h.k=hk at *;generalize h.m=hm at *;go_wp2_with fail
    go_meet
    exact⟨by rw[HXX.o],rfl⟩
   ·have hx:=HR0.o h3 h4;have e3:(h.k==3)=false:=by simpa using h3
    have e4:(h.k==4)=false:=by simpa using h4
    clear h3 h4;generalize h.k=hk at *;go_wp2_with fail
    go_meet
    exact⟨by rw[hx];rfl,rfl⟩
 case rest=>
  obtain⟨rfl,hw⟩:=hcut;have hw':=hw.symm;subst hw';clear qg0 qk qm qgl qpl hX hen hbf;have hX9:X<=50000:=by omega
  have HRL:=hd (fun j=>@rdEL_le ks j);generalize hrl:rdEL ks=RL at *;have HRE:=hd hrl;clear hrl;go_wp2_with fail
  go_loopw [39] (fun i wr=>∃k:Nat,i=.int .i64 k/\k<=X/\Hd (XB [tb] B w1 wr)/\Hd (TrS tb B cv K (T ++ rdC env h inst part k) wr)/\Hd (Blk wr pp 3 #[.int .i64 (part+k:Nat)])) (fun i _=>(X-intOf i).toNat)
  case atStart=>exact⟨0,rfl,Nat.zero_le _,hd (XB.refl _ _ _),hd (by rw[rdC_zero,List.append_nil];exact HT1.o),HP1⟩
  case round=>
   obtain⟨k,rfl,hk,HE,HTk,HPk⟩:=hrel;rename World=>wq
   by_cases hlt:k<X
   ·
    have hkx:(k:Int)<(X:Int):=by omega
    have hmul:=HEN.o (HE34.o (by omega)) k hlt;have q0:=HE.o.held HQ1.o.1 (HNS.o g hgn).1 (HNS.o g hgn).2;have q4:=HE.o.held HQ1.o.2.1 (HNS.o pb hpn).1 (HNS.o pb hpn).2;have q6:=HE.o.held HQ1.o.2.2 (HNS.o pb hpn).1 (HNS.o pb hpn).2;obtain⟨vL,vT,hB,hLr,hTr⟩:=HTk.o.2.2;have hBw:=HTk.o.2.1;have HB:=hd hB;have HLR:=hd hLr;have HTR:=hd hTr;have hTl:(T ++ rdC env h inst part k).length=T.length+k:=by rw[List.length_append,rdC_len]
    have HYL:=hd (tcs_len (T ++ rdC env h inst part k));have HTN:Hd (T ++ rdC env h inst part (k+1)=(T ++ rdC env h inst part k) ++ [⟨bf,av+en*(k:Int),(inst:Int),((part+k:Nat):Int),false⟩]):=hd (by rw[HRCS.o,List.append_assoc]);generalize T ++ rdC env h inst part k=Tk at *;have HTB:Hd (tb∉vT.ownBlock.toList):=hd fun hm=>by have:=own_base hTr tb (Option.mem_toList.1 hm);omega
    have HLT:Hd (∀q,vT.ownBlock=some q->B<=q/\q<wq.heap.size):=hd fun q hq=>by
     obtain⟨C,h6⟩:=own_blks hTr hq;exact⟨own_base hTr q hq,h6.lt⟩
    have HPT:Hd (pp∉vT.ownBlock.toList):=hd fun hm=>by
     obtain⟨C,h6⟩:=own_blks hTr (Option.mem_toList.1 hm);exact absurd (h6.type HPk.o) (by decide)
    have HLOW:Hd (∀b,b<B->b∉vT.ownBlock.toList):=hd fun b hb hm=>by have:=own_base hTr b (Option.mem_toList.1 hm);omega
    have hgB:g<B:=by omega
    have hpB:pb<B:=by omega
    clear hB hLr hTr hTl;obtain⟨i0,hi0,hz0,hz1,hz2⟩:=tcInfo;have m1 : -9223372036854775808<=en*(k:Int):=by omega
    have m2:en*(k:Int)<=9223372036854775807:=by omega
    have m3 : -9223372036854775808<=av+en*(k:Int):=by have:=HBD.o.1;omega
    have m4:av+en*(k:Int)<=9223372036854775807:=by have:=HBD.o.2;omega
    have hpk:part+k<=50000:=by omega
    generalize hpke:part+k=pk at *;generalize hnt':Tk.length=nt at *;have HNT:=hd hnt'
    have hnt9:nt<=60000:=by
     have h9:=HTN.o;have h8:=congrArg List.length h9;rw[List.length_append,List.length_append,rdC_len,List.length_singleton,HNT.o] at h8;omega
    clear hnt';generalize hnews:tcL bf (av+en*(k:Int)) inst pk false=news at *;have HNW:=hd hnews;clear hnews hmul;generalize hts:Tk.flatMap tcC=ts at *;have HTS:=hd hts;clear hts;go_upto_region 10 with fail
    refine rgW 31 vT.ownBlock.toList (fun p y=>vT.ownBlock=some p.block/\∃q,p.off=nt*5+q/\news[q]? = some y) [(29,sCells wq.heap.size news),(30,sRowA B 202 5 nt (ts ++ news) (fun g=>vT.ownBlock=some g\/wq.heap.size<=g))] ?_ ?_
    ·refine Stays.cons (sCells.stays fun b j u y hb hu hf=>?_) (Stays.cons (sRowA.stays fun g i x y _ hx hf=>?_) Stays.nil)
     ·have:=(HLT.o b hf.1).2;omega
     ·obtain⟨-,q,hq,hy⟩:=hf;simp only at hq;subst hq;rw[List.getElem?_append_right (by rw[HYL.o];omega),HYL.o,Nat.add_sub_cancel_left,hy] at hx;exact Option.some.inj hx
    simp only[List.take_succ_cons,List.take_zero,List.drop_succ_cons,List.drop_zero]
    repeat
     refine relAt_det rfl rfl ?_
     apply Exists.intro
     refine⟨fun wr nr hJ=>?_,?_⟩
     ·have qb:=(HB.o.ext hJ.1 HTB.o).cell;have qbl:=(HB.o.ext hJ.1 HTB.o).lt;have qg:=hJ.1.held q0 (HLOW.o g hgB);have qgl:=World.block_lt_of_cell? wr _ qg;simp only at qgl;have qn:=hJ.1.held q4 (HLOW.o pb hpB);have qf:=hJ.1.held q6 (HLOW.o pb hpB);have qpl:=World.block_lt_of_cell? wr _ qn;simp only at qpl;have qp:=(HPk.o.ext hJ.1 HPT.o).cell 0;have qppl:=(HPk.o.ext hJ.1 HPT.o).lt;clear hJ;(go_simp;try go_bits)
      first|rfl|exact⟨rfl,rfl⟩
     simp only[Act.put,List.setIfInBounds_toArray,List.set_cons_succ,List.set_cons_zero]
    refine rel_newL (sCells wq.heap.size news) rfl rfl (fun wr nr hJ hf=>?_) ?_
    ·refine⟨wr.heap.size,.cells (tcL bf (av+en*(k:Int)) inst pk false).toArray 202,?_,Ext.size hJ.1,fun j u hu=>?_⟩
     ·refine exec_buildSlice rfl _ _ _ _ (.agg (tcL bf (av+en*(k:Int)) inst pk false).toArray) ?_ ?_
      ·rfl
      ·exact tc_slice wr bf (av+en*(k:Int)) inst pk false
     ·rw[(Blk.new wr 202 (tcL bf (av+en*(k:Int)) inst pk false).toArray).cell j];rw[<-HNW.o] at hu;rw[<-hu];simp
    intro (b8:Nat);simp only[Act.put,List.setIfInBounds_toArray,List.set_cons_succ,List.set_cons_zero];refine rel_appL B b8 93 202 i0 _ 5 40 vT nt 1 ts news (fun g=>vT.ownBlock=some g\/wq.heap.size<=g) _ _ rfl rfl rfl (by kernel_rfl) hi0 hz0 hz1 hz2 rfl (by decide) rfl rfl (by rw[<-HNW.o];rfl) (fun u hu=>?_) (fun w' n' hJ hf=>?_) hBw (fun g hg hb=>.inl (Option.mem_toList.2 hg)) (fun g hg=>hg.imp And.left id) (fun g q u hg hb hu=>⟨hg,q,rfl,hu⟩) ?_ ?_ ?_
    ·rw[<-HNW.o] at hu;unfold tcL at hu;simp only[List.mem_cons,List.not_mem_nil,or_false] at hu;rcases hu with rfl|rfl|rfl|rfl|rfl<;>rfl
    ·have h8:(sCells wq.heap.size news).V b8 w':=get_after hf 29 (by kernel_rfl)
     exact⟨own_rw HTR.o hJ.2 fun g i x y hg hx hy=>by
      obtain⟨-,q,hq,-⟩:=hy;have h1:=(List.getElem?_eq_some_iff.1 hx).1;simp only at hq;rw[HYL.o] at h1;omega,h8.2⟩
    ·unfold maxLen;omega
    ·omega
    intro u9;simp only[Act.put,List.setIfInBounds_toArray,List.set_cons_succ,List.set_cons_zero];refine relAt_nil (fun wz hJ hF=>?_)
    obtain⟨gz,cz⟩:=u9;have hz:(sRowA B 202 5 nt (ts ++ news) (fun g=>vT.ownBlock=some g\/wq.heap.size<=g)).V (gz,cz) wz:=hF 30;have HOZ:Hd (wz.ownsRow B 202 5 (.slice (some ⟨gz,0,none⟩) (nt+1) cz) (nt+1) (ts ++ news)):=hd hz.1;have HGO:=hd hz.2;have HEZ:=hd hJ.1;clear hF hJ hz;dsimp only[sRowA];have HBZ:=hd (HB.o.ext HEZ.o HTB.o);have HPZ:=hd (HPk.o.ext HEZ.o HPT.o);have qb:=HBZ.o.cell;have qf:=HBZ.o.frozen;have qbl:=HBZ.o.lt;have HBF:=hd (HBZ.o.set_' 2 (.slice (some ⟨gz,0,none⟩) (nt+1) cz) #[cv,vL,.slice (some ⟨gz,0,none⟩) (nt+1) cz] rfl);have HEF:=hd (Ext.setAt (b:=tb) (i:=2) (u:=.slice (some ⟨gz,0,none⟩) (nt+1) cz) (.inl (by simp)) (Ext.refl [tb] wz))
    have HGT:Hd (gz≠tb):=hd fun h=>by
     have:=own_base HOZ.o gz rfl;omega
    have HPF:=hd (HPZ.o.ext HEF.o (by rw[List.mem_singleton];omega));have HEE:Hd (Ext (tb :: vT.ownBlock.toList) wq (wz.setCell ⟨tb,2,none⟩ (.slice (some ⟨gz,0,none⟩) (nt+1) cz))):=hd ((HEZ.o.mono fun x hx=>.inl (List.mem_cons_of_mem _ hx)).step HEF.o fun x hx=>.inl (by rw[List.mem_singleton.1 hx];exact List.mem_cons_self ..));have HOF:=hd (own_ext HOZ.o HEF.o (fun k hk=>by cases hk;rw[List.mem_singleton];exact HGT.o));go_upto_region 11 with fail
    generalize World.setCell wz _ _=w9 at *;have HNEW:=hd (TrS.snoc (w:=wq) (w':=w9) (cv:=cv) (vL:=vL) (vT:=vT) (gz:=gz) (cz:=cz) ⟨bf,av+en*(k:Int),(inst:Int),(pk:Int),false⟩ htB hBw HLR.o (by rw[HNT.o,HTS.o];exact HTR.o) HEE.o (by rw[HNT.o];exact HBF.o) (by rw[HNT.o,HTS.o,show tcC ⟨bf,av+en*(k:Int),(inst:Int),(pk:Int),false⟩=news from HNW.o];exact HOF.o));clear qb qf qbl;have qb:=HPF.o.cell;have qf:=HPF.o.frozen;have qbl:=HPF.o.lt;have HBP:=hd (HPF.o.set_' 0 (.int .i64 (pk+1)) #[.int .i64 (pk+1)] rfl);have HEP:=hd (Ext.setAt (b:=pp) (i:=0) (u:=.int .i64 (pk+1)) (.inl (by simp)) (Ext.refl [pp] w9));have HTP:=hd (HNEW.o.2.ext HEP.o fun x hx=>by rw[List.mem_singleton.1 hx];exact⟨by omega,.inr ⟨_,HPF.o⟩⟩);have HXP:Hd (XB [tb] B wq (w9.setCell ⟨pp,0,none⟩ (.int .i64 (pk+1)))):=hd (HNEW.o.1.trans (XB.of HEP.o fun x hx=>.inr (by rw[List.mem_singleton.1 hx];exact hpp)));have hpk1:part+(k+1)=pk+1:=by omega
    have HPN:Hd (Blk (w9.setCell ⟨pp,0,none⟩ (.int .i64 (pk+1))) pp 3 #[.int .i64 (part+(k+1):Nat)]):=hd (by rw[hpk1];exact HBP.o);clear hpk1;go_wp2_with fail
    go_roundw
    case rel=>exact⟨k+1,by go_num,by omega,hd (HE.o.trans HXP.o),hd (by rw[HTN.o];exact HTP.o),HPN⟩
    case measure=>simp[intOf];omega
   ·
    have hkm:k=X:=by omega
    subst hkm;have qg10:wq.cell? ⟨g,10,none⟩=some (.slice A ks.length cap):=HE.o.held (HG1.o.cell 10) (HNS.o g hgn).1 (HNS.o g hgn).2;have qgl:=World.block_lt_of_cell? wq _ qg10;simp only at qgl;have HX2:=hd (HX1.o.trans HE.o);have HV2:=hd (HE.o.env HV1.o heB HTE.o);generalize hkl:ks.length=m at *;have HKL:=hd hkl;have hm9:m<=1000000:=by have h1:=HGL.o;omega
    clear hkl;go_wp2_with fail
    clear qg10 qgl;go_loopw [86] (fun i wr=>∃j:Nat,i=.int .i64 j/\j<=m/\Hd (XB [tb] B wq wr)/\Hd (TrS tb B cv K ((T ++ rdC env h inst part k) ++ rdTL env inst (part+k) (ks.take j)) wr)/\Hd (Blk wr pp 3 #[.int .i64 (part+k+rdEL (ks.take j):Nat)])) (fun i _=>(m-intOf i).toNat)
    case atStart=>exact⟨0,rfl,Nat.zero_le _,hd (XB.refl _ _ _),hd (by simpa[rdTL] using HTk.o),hd (by simpa[rdEL] using HPk.o)⟩
    case round=>
     obtain⟨j,rfl,hj,HEJ,HTJ,HPJ⟩:=hrel;rename World=>wj
     have HXJ:=hd (HX2.o.trans HEJ.o);by_cases hjl:j<m
     ·have hjm:(j:Int)<(m:Int):=by omega
      obtain⟨bb,g',rfl,hg',hgc⟩:=HK.o.at (i:=j) (by have:=HGL.o;have:=HKL.o;omega);have hbn:=HKN.o bb 0 rfl;have qa0:w.cell? ⟨bb,j,none⟩=some (.pointer (some ⟨g',0,none⟩)):=by have:=hgc 0 _ rfl;rw[Nat.mul_one,Nat.add_zero] at this;exact this
      have qa:=HXJ.o.held qa0 (HNS.o bb hbn).1 (HNS.o bb hbn).2;have qal:=World.block_lt_of_cell? wj _ qa;simp only at qal;obtain⟨x,hx⟩:∃x,ks[j]? = some x:=⟨_,List.getElem?_eq_getElem (show j<ks.length by have:=HKL.o;omega)⟩;have hmem:=List.mem_of_getElem? hx;have HTK:=hd (rdEL_take hx);have HTT:=hd (rdTL_take (env:=env) (inst:=inst) (part:=part+k) hx);have hle:rdEL (ks.take (j+1))<=RL:=HRL.o (j+1);rw[HTK.o] at hle;have HCC:=hd (HI.o _ hmem (HKX.o _ hmem) (HPL.o j _ hx) g' _ _ wj HTJ.o (HXJ.o.cex HMT.o hnB (HS.o j g' _ hg' hx)) (HEJ.o.env HV2.o heB HTE.o) HPJ.o (by rw[List.length_append,List.length_append,rdC_len,rdTL_len];omega) (by omega));unfold ptV at HCC;have HAS:=hd (List.append_assoc (T ++ rdC env h inst part k) (rdTL env inst (part+k) (ks.take j)) (rdT env inst (part+k+rdEL (ks.take j)) x));clear hg' hgc hx hmem qa0;go_wp2_with fail
      refine HCC.o.mono ?_
      rintro r w2 ⟨rfl,hE,hT2,hP2⟩;have HE2:=hd (HEJ.o.trans hE);have HT2:=hd hT2;have HP2:=hd hP2;clear hE hT2 hP2 HCC;go_wp2_with fail
      go_roundw
      case rel=>exact⟨j+1,by go_num,by omega,HE2,hd (by rw[HTT.o,<-HAS.o];exact HT2.o),hd (by rw[HTK.o,<-Nat.add_assoc];exact HP2.o)⟩
      case measure=>simp[intOf];omega
     ·have hjm:j=m:=by omega
      subst hjm;have HTA:Hd (ks.take j=ks):=hd (List.take_of_length_le (by have:=HKL.o;omega));go_wp2_with fail
      exact bodyPost_end (results_none rfl _ _ _) rfl ⟨rfl,HXJ.o,by rw[HRT.o,<-List.append_assoc];rw[HTA.o] at HTJ;exact HTJ.o,by rw[HRD.o,<-Nat.add_assoc,<-HRE.o];rw[HTA.o] at HPJ;exact HPJ.o⟩
end
section
theorem kyInfo:∃i,Tryz.prog.info? 98=some i/\i.zero=some (.agg (keyB 0 0))/\i.size=10/\i.bytes=80:=info_parts (show((Tryz.prog).info? 98).map (fun i=>(i.zero,i.size,i.bytes))=some (some (.agg (keyB 0 0)),10,80) by kernel_rfl)
theorem ky_slice (w:World)(no:Nat)(vs:List Int):(Instr.buildSlice 92 1 #[(0,.agg (keyA no vs))]).run Tryz.prog w=.ok (.slice (some ⟨w.heap.size,0,none⟩) 1 1) (w.alloc (.cells (keyA no vs) 98)):=by
 obtain⟨i0,hi0,hz0,hz1,hz2⟩:=kyInfo;refine run_buildSlice w _ _ 1 _ _ i0 _ Tryz.underlying92 hi0 hz0 (by rw[hz1];decide) (by rw[hz1];decide) ?_
 rw[hz1];have hz:((Array.range (1*10)).map (fun x=>(Value.agg (keyB 0 0)).cells[x % (Value.agg (keyB 0 0)).cells.size]!))=keyB 0 0:=by kernel_rfl
 rw[hz];simp[Instr.fill,keyA,keyB,Value.cells]
theorem kys_len (K:List (Nat×List Int)):(K.flatMap kyL).length=K.length*10:=by
 induction K with
 | nil=>rfl
 | cons t T ih=>rw[List.flatMap_cons,List.length_append,ih,List.length_cons,Nat.add_mul];simp[kyL,keyA];omega
theorem TrS.snocK {tb B:Nat}{cv:Value}{K:List (Nat×List Int)}{T:List Tch}{w w':World}{vL vT:Value}{gz cz:Nat}(t:Nat×List Int)(h0:tb<B)(h1:B<=w.heap.size)
  (h3:w.ownsRow B 98 10 vL K.length (K.flatMap kyL)) (h4:w.ownsRow B 202 5 vT T.length (T.flatMap tcC)) (hE:Ext (tb :: vL.ownBlock.toList) w w')
  (hB:Blk w' tb 95 #[cv,.slice (some ⟨gz,0,none⟩) (K.length+1) cz,vT]) (hT:w'.ownsRow B 98 10 (.slice (some ⟨gz,0,none⟩) (K.length+1) cz) (K.length+1) (K.flatMap kyL ++ kyL t)) :
  XB [tb] B w w'/\TrS tb B cv (K ++ [t]) T w':=by
 refine⟨XB.of hE fun x hx=>?_,h0,Nat.le_trans h1 hE.size,_,vT,hB,?_,own_ext h4 hE fun k hk hm=>?_⟩
 ·rcases List.mem_cons.1 hx with rfl|hx
  ·exact .inl (List.mem_singleton.2 rfl)
  ·exact .inr (own_base h3 x (Option.mem_toList.1 hx))
 ·rw[List.length_append,List.length_singleton,List.flatMap_append];simpa using hT
 ·rcases List.mem_cons.1 hm with rfl|hm
  ·have:=own_base h4 _ hk;omega
  ·obtain⟨C,h6⟩:=own_blks h4 hk;obtain⟨C',h7⟩:=own_blks h3 (Option.mem_toList.1 hm);exact absurd (h6.type h7) (by decide)
theorem results_inst {fn:Func}{u p:Tmp}(h:fn.results=#[.tmp u,.cell p 3])(tmps:Array Value)(w:World)(g:Nat)(x:Int)
  (hp:tmps.getD p undef=.pointer (some ⟨g,0,none⟩)) (hg:Blk w g 3 #[.int .i64 x]):(results fn tmps).run Tryz.prog w=.ok (.tuple #[tmps.getD u undef,.int .i64 x]) w:=by
 have hp':tmps[p]?.getD undef=.pointer (some ⟨g,0,none⟩):=by simpa using hp
 have hc:=hg.cell 0;have hu:=run_underlying (P:=Tryz.prog) Tryz.underlying3;simp[results,h,hp',asAddr,loadVar,isAgg,Sem.run_bind,hu,go_sem,hc]
attribute [local irreducible] relAt
set_option maxHeartbeats 16000000 in
set_option maxRecDepth 100000 in
theorem inst_any (tb B eb n g:Nat)(cv:Value)(K:List (Nat×List Int))(T:List Tch)(names:List ByteArray)(nb no:Nat)(vs:List Int)(h:SH)(w:World)
  (hT:TrS tb B cv K T w) (hS:StoB w n g names nb h no) (hV:EnvR w eb vs) (hl:vs.length=names.length) (hnt:n<=tb) (heB:eb<B) (het:eb≠tb) (hK9:K.length<2000) (hT9:T.length+rdE h.val<=30000) :
  Calls Tryz.prog 179 #[.pointer (some ⟨tb,0,none⟩),ptV g,.slice (some ⟨eb,0,none⟩) vs.length 8] w fun e w'=>
   e=.returned (.tuple #[.int .i64 (K.length:Nat),.int .i64 (rdE h.val:Nat)])/\XB [tb] B w w'/\TrS tb B cv (K ++ [(no,vs)]) (T ++ tchI (names.zip vs) h K.length) w':=by
 have HT0:=hd hT;have HS0:=hd hS;have HV0:=hd hV;have HL:=hd hl;have hnB:n<=B:=by have:=hT.1;omega
 have htB:=hT.1;have hgn:=hS.gn;have HMT:Hd (∀x∈[tb],n<=x):=hd fun x hx=>by rw[List.mem_singleton.1 hx];exact hnt
 have HTE:Hd (eb∉[tb]):=hd fun h=>het (List.mem_singleton.1 h)
 have HNS:Hd (∀b,b<n->b<B/\b∉[tb]):=hd fun b hb=>⟨by omega,fun hm=>by rw[List.mem_singleton.1 hm] at hb;omega⟩
 have hwB:=hT.2.1;clear hT hS hV hl;generalize hd':vs.length=d at *;have HD:=hd hd';clear hd';have HE0:=hd ((Ext.refl [] w).alloc (.cells #[.int .i64 0] 3));have HP0:=hd (Blk.new w 3 #[.int .i64 0]);unfold ptV;go_enter Tryz.func179,Tryz.ntmps179
 go_upto_region 1 with fail
 have hw1:(World.alloc w (.cells #[.int .i64 0] 3)).heap.size=w.heap.size+1:=alloc_size _ _;generalize World.alloc w _=w1 at *;generalize hpe:w.heap.size=pp at *;have HX1:Hd (XB [tb] B w w1):=hd (XB.of0 HE0.o);have HT1:=hd (HT0.o.ext0 HE0.o);have HV1:=hd (HV0.o.keep HE0.o (by simp));have HS1:=hd (HS0.o.xb HX1.o HMT.o hnB);obtain⟨vL,vT,hB,hLr,hTr⟩:=HT1.o.2.2;have hBw:=HT1.o.2.1;have HB:=hd hB;have HLR:=hd hLr;have HTR:=hd hTr;have HYL:=hd (kys_len K);have HTB:Hd (tb∉vL.ownBlock.toList):=hd fun hm=>by have:=own_base hLr tb (Option.mem_toList.1 hm);omega
 have HLT:Hd (∀q,vL.ownBlock=some q->B<=q/\q<w1.heap.size):=hd fun q hq=>by
  obtain⟨C,h6⟩:=own_blks hLr hq;exact⟨own_base hLr q hq,h6.lt⟩
 have HPT:Hd (pp∉vL.ownBlock.toList):=hd fun hm=>by
  obtain⟨C,h6⟩:=own_blks hLr (Option.mem_toList.1 hm);exact absurd (h6.type HP0.o) (by decide)
 have HLOW:Hd (∀b,b<B->b∉vL.ownBlock.toList):=hd fun b hb hm=>by have:=own_base hLr b (Option.mem_toList.1 hm);omega
 have hgB:g<B:=by omega
 have hg5:=HS1.o.no;have HKO:=hd (fun W (hW:Ext vL.ownBlock.toList w1 W)=>keyOf_any no eb vs W (HV1.o.keep hW (HLOW.o eb heB)));rw[HD.o] at HKO;clear hB hLr hTr;obtain⟨i0,hi0,hz0,hz1,hz2⟩:=kyInfo;generalize hnt':K.length=nt at *;have HNT:=hd hnt';clear hnt';generalize hnews:(keyA no vs).toList=news at *;have HNW:=hd hnews;clear hnews;generalize hts:K.flatMap kyL=ts at *;have HTS:=hd hts;clear hts;refine rgW 13 vL.ownBlock.toList (fun p y=>vL.ownBlock=some p.block/\∃q,p.off=nt*10+q/\news[q]? = some y) [(10,sFix (.agg (keyA no vs))),(11,sCells w1.heap.size news),(12,sRowA B 98 10 nt (ts ++ news) (fun g=>vL.ownBlock=some g\/w1.heap.size<=g))] ?_ ?_
 ·refine Stays.cons sFix.stays (Stays.cons (sCells.stays fun b j u y hb hu hf=>?_) (Stays.cons (sRowA.stays fun g i x y _ hx hf=>?_) Stays.nil))
  ·have:=(HLT.o b hf.1).2;omega
  ·obtain⟨-,q,hq,hy⟩:=hf;simp only at hq;subst hq;rw[List.getElem?_append_right (by rw[HYL.o];omega),HYL.o,Nat.add_sub_cancel_left,hy] at hx;exact Option.some.inj hx
 simp only[List.take_succ_cons,List.take_zero,List.drop_succ_cons,List.drop_zero]
 repeat
  refine relAt_det rfl rfl ?_
  apply Exists.intro
  refine⟨fun wr nr hJ=>?_,?_⟩
  ·have qb:=(HB.o.ext hJ.1 HTB.o).cell;have qbl:=(HB.o.ext hJ.1 HTB.o).lt;have qg:=hJ.1.held hg5 (HLOW.o g hgB);have qgl:=World.block_lt_of_cell? wr _ qg;simp only at qgl;clear hJ;(go_simp;try go_bits)
   first|rfl|exact⟨rfl,rfl⟩
  simp only[Act.put,List.setIfInBounds_toArray,List.set_cons_succ,List.set_cons_zero]
 refine rel_extL (sFix (.agg (keyA no vs))) rfl rfl ?_ ?_
 ·apply Exists.intro
  apply Exists.intro
  refine⟨fun wr=>?_,fun wr nr hJ hf=>?_⟩
  ·go_simp
   first|exact⟨rfl,rfl⟩|rfl
  ·refine(HKO.o wr hJ.1).mono ?_
   rintro e w' ⟨rfl,hE⟩;exact⟨(),rfl,trivial,hE⟩
 rintro⟨⟩;simp only[Act.put,List.setIfInBounds_toArray,List.set_cons_succ,List.set_cons_zero]
 repeat
  refine relAt_det rfl rfl ?_
  apply Exists.intro
  refine⟨fun wr nr hJ=>?_,?_⟩
  ·skip
   clear hJ;(go_simp;try go_bits)
   first|rfl|exact⟨rfl,rfl⟩
  simp only[Act.put,List.setIfInBounds_toArray,List.set_cons_succ,List.set_cons_zero]
 refine rel_newL (sCells w1.heap.size news) rfl rfl (fun wr nr hJ hf=>?_) ?_
 ·refine⟨wr.heap.size,.cells (keyA no vs) 98,?_,Ext.size hJ.1,fun j u hu=>?_⟩
  ·refine exec_buildSlice rfl _ _ _ _ (.agg (keyA no vs)) ?_ ?_
   ·rfl
   ·exact ky_slice wr no vs
  ·rw[(Blk.new wr 98 (keyA no vs)).cell j];rw[<-HNW.o] at hu;rw[<-hu];simp
 intro (b8:Nat);simp only[Act.put,List.setIfInBounds_toArray,List.set_cons_succ,List.set_cons_zero];refine rel_appL B b8 92 98 i0 _ 10 80 vL nt 1 ts news (fun g=>vL.ownBlock=some g\/w1.heap.size<=g) _ _ rfl rfl rfl (by kernel_rfl) hi0 hz0 hz1 hz2 rfl (by decide) rfl rfl (by rw[<-HNW.o];rfl) (fun u hu=>?_) (fun w' n' hJ hf=>?_) hBw (fun g hg hb=>.inl (Option.mem_toList.2 hg)) (fun g hg=>hg.imp And.left id) (fun g q u hg hb hu=>⟨hg,q,rfl,hu⟩) ?_ ?_ ?_
 ·rw[<-HNW.o] at hu;unfold keyA at hu;simp only[List.mem_cons,List.not_mem_nil,or_false] at hu;rcases hu with rfl|rfl|rfl|rfl|rfl|rfl|rfl|rfl|rfl|rfl<;>rfl
 ·have h8:(sCells w1.heap.size news).V b8 w':=get_after hf 11 (by kernel_rfl)
  exact⟨own_rw HLR.o hJ.2 fun g i x y hg hx hy=>by
   obtain⟨-,q,hq,-⟩:=hy;have h1:=(List.getElem?_eq_some_iff.1 hx).1;simp only at hq;rw[HYL.o] at h1;omega,h8.2⟩
 ·unfold maxLen;omega
 ·omega
 intro u9;simp only[Act.put,List.setIfInBounds_toArray,List.set_cons_succ,List.set_cons_zero];refine relAt_nil (fun wz hJ hF=>?_)
 obtain⟨gz,cz⟩:=u9;have hz:(sRowA B 98 10 nt (ts ++ news) (fun g=>vL.ownBlock=some g\/w1.heap.size<=g)).V (gz,cz) wz:=hF 12;have HOZ:Hd (wz.ownsRow B 98 10 (.slice (some ⟨gz,0,none⟩) (nt+1) cz) (nt+1) (ts ++ news)):=hd hz.1;have HGO:=hd hz.2;have HEZ:=hd hJ.1;clear hF hJ hz;dsimp only[sRowA];have HBZ:=hd (HB.o.ext HEZ.o HTB.o);have HPZ:=hd (HP0.o.ext HEZ.o HPT.o);have qb:=HBZ.o.cell;have qf:=HBZ.o.frozen;have qbl:=HBZ.o.lt;have HBF:=hd (HBZ.o.set_' 1 (.slice (some ⟨gz,0,none⟩) (nt+1) cz) #[cv,.slice (some ⟨gz,0,none⟩) (nt+1) cz,vT] rfl);have HEF:=hd (Ext.setAt (b:=tb) (i:=1) (u:=.slice (some ⟨gz,0,none⟩) (nt+1) cz) (.inl (by simp)) (Ext.refl [tb] wz))
 have HGT:Hd (gz≠tb):=hd fun h=>by
  have:=own_base HOZ.o gz rfl;omega
 have HPF:=hd (HPZ.o.ext HEF.o (by rw[List.mem_singleton];omega));have HEE:Hd (Ext (tb :: vL.ownBlock.toList) w1 (wz.setCell ⟨tb,1,none⟩ (.slice (some ⟨gz,0,none⟩) (nt+1) cz))):=hd ((HEZ.o.mono fun x hx=>.inl (List.mem_cons_of_mem _ hx)).step HEF.o fun x hx=>.inl (by rw[List.mem_singleton.1 hx];exact List.mem_cons_self ..));have HOF:=hd (own_ext HOZ.o HEF.o (fun k hk=>by cases hk;rw[List.mem_singleton];exact HGT.o));go_upto_region 2 with fail
 generalize World.setCell wz _ _=w9 at *;have HNEW:=hd (TrS.snocK (w:=w1) (w':=w9) (cv:=cv) (vL:=vL) (vT:=vT) (gz:=gz) (cz:=cz) (no,vs) htB hBw (by rw[HNT.o,HTS.o];exact HLR.o) HTR.o HEE.o (by rw[HNT.o];exact HBF.o) (by rw[HNT.o,HTS.o,show kyL (no,vs)=news from HNW.o];exact HOF.o));clear qb qf qbl;have qb:=HBF.o.cell;have qbl:=HBF.o.lt;have HX9:=hd (HX1.o.trans HNEW.o.1);have HS9:=hd (HS1.o.xb HNEW.o.1 HMT.o hnB);have HV9:=hd (HNEW.o.1.env HV1.o heB HTE.o);have hfit:=HS9.o.fit;obtain⟨pb,po,vb,-,-,-,q16,hcx⟩:=HS9.o.src;have q16l:=World.block_lt_of_cell? w9 _ q16;simp only at q16l;have HRE:=hd (treads_any tb B eb n nb pp nt cv (K ++ [(no,vs)]) names vs (by rw[HD.o];exact HL.o) hnt htB heB het (by omega) h.val HS9.o.val (by omega) vb T 0 w9 HNEW.o.2 hcx HV9.o HPF.o (by omega) (by omega));rw[HD.o,Nat.zero_add] at HRE;unfold ptV at HRE q16;generalize hrd:rdE h.val=rd at *;have HRDD:=hd hrd;clear hcx hrd hfit;go_wp2_with fail
 refine HRE.o.mono ?_
 rintro r w2 ⟨rfl,hE,hT2,hP2⟩;have HE2:=hd (HX9.o.trans hE);have HT2:=hd hT2;have HP2:=hd hP2;clear hE hT2 hP2 HRE qb qbl q16 q16l;have qb:=HP2.o.cell;have qf:=HP2.o.frozen;have qbl:=HP2.o.lt;have HBP:=hd (HP2.o.set_' 0 (.int .i64 rd) #[.int .i64 rd] rfl);have HEP:=hd (Ext.setAt (b:=pp) (i:=0) (u:=.int .i64 rd) (.inl (by simp)) (Ext.refl [pp] w2));have HTP:=hd (HT2.o.ext HEP.o fun x hx=>by rw[List.mem_singleton.1 hx];exact⟨by omega,.inr ⟨_,HP2.o⟩⟩);have HXP:Hd (XB [tb] B w (w2.setCell ⟨pp,0,none⟩ (.int .i64 rd))):=hd (HE2.o.trans (XB.of HEP.o fun x hx=>.inr (by rw[List.mem_singleton.1 hx];omega)));go_upto_region 4 with fail
 go_region
 have HZ0:=hd ((Ext.refl [] (w2.setCell ⟨pp,0,none⟩ (.int .i64 rd))).drew);have HX0:=hd (HXP.o.trans (XB.of0 HZ0.o));have HT0:=hd (HTP.o.ext0 HZ0.o);have HB0:=hd (HBP.o.ext HZ0.o (by simp));go_wp2_with fail
 exact bodyPost_ret (results_inst rfl _ _ pp rd rfl HB0.o) rfl ⟨by rw[HNT.o,HRDD.o];rfl,HX0.o,by rw[tchI,HNT.o];exact HT0.o⟩
end
end Go.Proofs.YtfppibmloloakaaGreatDoor
