import Derived.Test.YtfppibmloloakaaGreatDoorI22
import Derived.Test.YtfppibmloloakaaGreatDoorI34
namespace Go.Proofs.YtfppibmloloakaaGreatDoor
open Go.RowKit Go.Proofs.Tryz
set_option linter.all false
set_option maxHeartbeats 64000000
section
def vsE (env:Env):List Int:=env.map Prod.snd
theorem Akw {names:List ByteArray}{vs:List Int}(hl:vs.length=names.length):vsE (names.zip vs)=vs:=by
 unfold vsE;rw[List.map_snd_zip (by omega)]
def rqI (env:Env)(no:Nat)(h:SH)(c:Nat):List RtD:=(Kg env h c).map (Ho no (vsE env))
def rqW (env:Env)(no:Nat)(h:SH)(c:Nat):List RtD:=[Ho no (vsE env) (Td env h c)]
def rqV (env:Env)(h:SH)(no c:Nat):List St->List RtD
 | []=>[]
 | s :: r=>(Cj (An h) fun j=>rqI (Bb env h j) no s.h (c+j)) ++ (Cj (An h) fun j=>rqW (Bb env h j) no s.h (c+j)) ++ rqV env h (no+1) (c+An h) r
mutual
def rqS (env:Env)(no c:Nat):St->List RtD
 | .mk h b=>if h.k=3 then rqI env no h c ++ rqW env no h c else if h.k=2 then(if El env h then rqL env no c b else [])
   else if h.vec then rqV env h no c b else((List.range (An h)).map fun k=>rqL (Bb env h k) no (c+(Cj k fun j=>Aj (Bb env h j) no b).length) b).flatten
def rqL (env:Env)(no c:Nat):List St->List RtD
 | []=>[]
 | s :: r=>rqS env no c s ++ rqL env (no+Aw s) (c+(Br env no s).length) r
end
theorem Af3 {env:Env}{no c:Nat}{h:SH}{b:List St}(hk:h.k=3):rqS env no c (.mk h b)=rqI env no h c ++ rqW env no h c:=by rw[rqS,ijp hk]
theorem Aaq {env:Env}{no c:Nat}{h:SH}{b:List St}(hk:h.k=2):rqS env no c (.mk h b)=if El env h then rqL env no c b else []:=by rw[rqS,ijn (by omega),ijp hk]
theorem Akx {env:Env}{no c:Nat}{h:SH}{b:List St}(hk:h.k=1)(hv:h.vec=true):rqS env no c (.mk h b)=rqV env h no c b:=by rw[rqS,ijn (by omega),ijn (by omega),ijp hv]
theorem Aky {env:Env}{no c:Nat}{h:SH}{b:List St}(hk:h.k=1)(hv:h.vec=false):rqS env no c (.mk h b)=Cj (An h) fun k=>rqL (Bb env h k) no (c+(Cj k fun j=>Aj (Bb env h j) no b).length) b:=by
 rw[rqS,ijn (by omega),ijn (by omega),ijn (by simp[hv])];rfl
theorem Tw (env:Env)(h:SH)(b:List St):∀(a:List St) (no c:Nat),rqV env h no c (a ++ b)=rqV env h no c a ++ rqV env h (no+a.length) (c+a.length*An h) b
 | [],no,c=>by simp[rqV]
 | s :: a,no,c=>by
  simp only[List.cons_append,rqV,Tw env h b a,jP,List.length_cons];congr 4
  ·omega
  ·rw[Nat.add_mul];omega
theorem Ait {env:Env}{h:SH}{no c:Nat}{l:List St}{j:Nat}{s:St}(hj:l[j]? = some s):rqV env h no c (l.take (j+1))=rqV env h no c (l.take j) ++ ((Cj (An h) fun i=>rqI (Bb env h i) (no+j) s.h (c+j*An h+i)) ++ (Cj (An h) fun i=>rqW (Bb env h i) (no+j) s.h (c+j*An h+i))):=by
 have h1:=(ils hj).1;rw[List.take_add_one,hj,Tw,List.length_take,Nat.min_eq_left (by omega)];simp[rqV]
theorem Tx (env:Env)(b:List St):∀(a:List St) (no c:Nat),rqL env no c (a ++ b)=rqL env no c a ++ rqL env (no+Ab a) (c+(Aj env no a).length) b
 | [],no,c=>by simp[rqL,Ab,Aj]
 | s :: a,no,c=>by simp only[List.cons_append,rqL,Ab,Aj,Tx env b a,jP,jG,Nat.add_assoc]
theorem Aiu {env:Env}{no c:Nat}{l:List St}{j:Nat}{s:St}(h:l[j]? = some s):rqL env no c (l.take (j+1))=rqL env no c (l.take j) ++ rqS env (no+Ab (l.take j)) (c+(Aj env no (l.take j)).length) s:=by
 rw[List.take_add_one,h,Tx];simp[rqL]
theorem Xx (env:Env)(no:Nat)(h:SH)(c:Nat):(rqI env no h c).length=rdE h.val:=by simp[rqI,Kg,Nk]
theorem Xy (env:Env)(no:Nat)(h:SH)(c:Nat):(rqW env no h c).length=1:=rfl
theorem Ph {α:Type}{f:Nat->List α}{k:Nat}(hf:∀j,(f j).length=k):∀n,(Cj n f).length=n*k
 | 0=>by simp[Gg]
 | n+1=>by rw[Bq,jG,Ph hf n,hf,Nat.add_mul,Nat.one_mul]
theorem Xz (env:Env)(h:SH):∀(b:List St) (no c:Nat),(rqV env h no c b).length=Bt (Cd env h no b)
 | [],no,c=>by simp[rqV,Cd,Bt]
 | s :: b,no,c=>by
  have h1:Cd env h no (s :: b)=Fi env h no s (An h) ++ Cd env h (no+1) b:=rfl;rw[h1,Bu,Kw,<-Xz env h b (no+1) (c+An h)];simp only[rqV,jG];rw[Ph (fun j=>Xx (Bb env h j) no s.h (c+j)),Ph (fun j=>Xy (Bb env h j) no s.h (c+j))];simp only[Nat.mul_add,Nat.mul_one]
theorem Ty {env:Env}(l:List St)(ih:∀s∈l,∀no c,(rqS env no c s).length=Bt (Br env no s)):∀no c,(rqL env no c l).length=Bt (Aj env no l):=by
 induction l with
 | nil=>intro no c;simp[rqL,Aj,Bt]
 | cons s r ihr=>
  intro no c;simp only[rqL,Aj,jG,Bu,ih s (jO ..),ihr fun s hs=>ih s (jI _ hs)]
theorem Akz:∀(s:St) (env:Env) (no c:Nat),(rqS env no c s).length=Bt (Br env no s):=by
 refine Dr fun h b ih=>?_
 intro env no c;have hl:∀env no c,(rqL env no c b).length=Bt (Aj env no b):=fun env=>Ty b fun s hs no c=>ih s hs env no c
 rw[rqS,Br];split
 ·simp[Xx,Xy,Bt]
 split
 ·split
  ·exact hl ..
  ·simp[Bt]
 split
 ·exact Xz ..
 ·have key:∀m,(Cj m fun k=>rqL (Bb env h k) no (c+(Cj k fun j=>Aj (Bb env h j) no b).length) b).length=Bt (Cj m fun k=>Aj (Bb env h k) no b):=by
   intro m
   induction m with
   | zero=>simp[Gg,Bt]
   | succ m ihm=>rw[Bq,Bq,jG,Bu,ihm,hl]
  exact key _
theorem Ya (env:Env)(no c:Nat)(l:List St):(rqL env no c l).length=Bt (Aj env no l):=Ty l (fun s _=>Akz s env) no c
theorem Nm {α:Type}(k:Bool)(a b:List α):kL k (a ++ b)=kL k a ++ kL k b:=by cases k<;>simp[kL]
def Tz (keep:Bool)(D:List RtD)(many count:Nat)(I:List Az):Prop:=(keep=true->D.length+Bt I<=20000)/\many+Bt I<=100000000000000/\count+I.length<=1000000000
theorem Tz.pre {keep:Bool}{D:List RtD}{many count:Nat}{a b:List Az}(h:Tz keep D many count (a ++ b)):Tz keep D many count a:=by
 obtain⟨h1,h2,h3⟩:=h;rw[Bu] at h1 h2;rw[jG] at h3;exact⟨fun hk=>by have:=h1 hk;omega,by omega,by omega⟩
theorem Tz.post {keep:Bool}{D X:List RtD}{many count:Nat}{a b:List Az}(h:Tz keep D many count (a ++ b))(hX:X.length=Bt a):Tz keep (D ++ kL keep X) (many+Bt a) (count+a.length) b:=by
 obtain⟨h1,h2,h3⟩:=h;rw[Bu] at h1 h2;rw[jG] at h3;refine⟨fun hk=>?_,by omega,by omega⟩
 subst hk;have:=h1 rfl;simp only[kL,if_true,jG];omega
def Dq (tb mb B:Nat)(keep:Bool)(names:List ByteArray)(vs:List Int)(U:Nat)(D:List RtD)(many count:Nat)(V:Option Nat)(w:World):Prop:=mb<B/\∃hi,hi<=w.heap.size/\Ey tb B hi keep D many count V w/\MpR w mb names vs U
def Ge (tb mb:Nat)(V:Option Nat)(w:World)(V':Option Nat)(w':World):Prop:=Jp w.heap.size V V'/\Ext (tb :: mb :: V.toList) w w'
section
variable {tb mb B U many count b:Nat} {keep:Bool} {names:List ByteArray} {vs:List Int} {D:List RtD} {V V1 V2:Option Nat} {w0 w w1 w2:World} {t:TypeId} {C:Array Value}
theorem Ge.refl:Ge tb mb V w V w:=⟨Jp.refl _ _,jF _ _⟩
theorem Ge.trans (h:Ge tb mb V w V1 w1)(k:Ge tb mb V1 w1 V2 w2):Ge tb mb V w V2 w2:=⟨h.1.trans k.1 h.2.size,h.2.step k.2 fun x hx=>by
 rcases jE.1 hx with rfl|hx
 ·left;simp
 ·rcases jE.1 hx with rfl|hx
  ·left;simp
  ·rcases h.1 x (jC.1 hx) with h1|h1
   ·left;rw[h1];simp
   ·right;exact h1⟩
theorem Ge.grow (h:Ge tb mb V w V1 w1)(k:Ext [] w1 w2):Ge tb mb V w V1 w2:=⟨h.1,h.2.trans k.nil⟩
theorem Ge.one (h:Ge tb mb V w V1 w1)(k:Ext [b] w1 w2)(hb:b=tb\/b=mb\/w.heap.size<=b):Ge tb mb V w V1 w2:=⟨h.1,h.2.step k fun x hx=>by
 rw[jA.1 hx];rcases hb with rfl|rfl|hb
 ·left;simp
 ·left;simp
 ·right;exact hb⟩
theorem Dq.grow (h:Dq tb mb B keep names vs U D many count V w)(k:Ext [] w w1):Dq tb mb B keep names vs U D many count V w1:=by
 obtain⟨hb,hi,h1,h2,h3⟩:=h;exact⟨hb,hi,nt h1 k.size,h2.ext0 k,h3.ext k jH⟩
theorem Dq.far (h:Dq tb mb B keep names vs U D many count V w)(k:Blk w b t C)(h1:t≠113)(h2:t≠163):b∉tb :: mb :: V.toList:=by
 obtain⟨hb,hi,-,hT,hM⟩:=h;intro hm;rcases jE.1 hm with h3|hm
 ·obtain⟨-,-,v,O,-,-,hB,-⟩:=hT;rw[<-h3] at hB;exact h2 (k.type hB)
 ·rcases jE.1 hm with h3|hm
  ·exact hM.apart k h3.symm
  ·obtain⟨-,C',hC⟩:=hT.own (jC.1 hm);exact h1 (k.type hC)
theorem Ge.blk (hE:Ge tb mb V w V1 w1)(h:Dq tb mb B keep names vs U D many count V w)(k:Blk w b t C)(h1:t≠113)(h2:t≠163):Blk w1 b t C:=k.ext hE.2 (h.far k h1 h2)
theorem Dq.more {U':Nat}(h:Dq tb mb B keep names vs U D many count V w)(hU:U<=U'):Dq tb mb B keep names vs U' D many count V w:=by
 obtain⟨hb,hi,h1,h2,h3⟩:=h;exact⟨hb,hi,h1,h2,h3.more hU⟩
theorem Dq.pop {nm:ByteArray}{x:Int}(h:Dq tb mb B keep (names ++ [nm]) (vs ++ [x]) U D many count V w)(hl:vs.length=names.length):Dq tb mb B keep names vs U D many count V w:=by
 obtain⟨hb,hi,h1,h2,h3⟩:=h;exact⟨hb,hi,h1,h2,h3.pop hl⟩
theorem Dq.map (h:Dq tb mb B keep names vs U D many count V w):MpR w mb names vs U:=by
 obtain⟨hb,hi,h1,h2,h3⟩:=h;exact h3
theorem Dq.put {names':List ByteArray}{vs':List Int}{U':Nat}(h:Dq tb mb B keep names vs U D many count V w)(hE:Ext [mb] w w1)(hM:MpR w1 mb names' vs' U'):Dq tb mb B keep names' vs' U' D many count V w1:=by
 obtain⟨hb,hi,h1,h2,h3⟩:=h;refine⟨hb,hi,nt h1 hE.size,h2.ext hE fun x hx=>?_,hM⟩
 rw[jA.1 hx];refine⟨?_,fun hv=>?_,.inl hb⟩
 ·obtain⟨-,-,v,O,-,-,hB,-⟩:=h2;exact h3.apart hB
 ·obtain⟨-,C,hC⟩:=h2.own hv;exact h3.apart hC rfl
theorem Dq.low (h:Dq tb mb B keep names vs U D many count V w)(ht:w0.heap.size<=tb)(hm:w0.heap.size<=mb):∀x∈tb :: mb :: V.toList,w0.heap.size<=x:=by
 obtain⟨hb,hi,-,hT,hM⟩:=h;intro x hx;rcases jE.1 hx with rfl|hx
 ·exact ht
 ·rcases jE.1 hx with rfl|hx
  ·exact hm
  ·have h1:=(hT.own (jC.1 hx)).1;have h2:=hT.1;omega
theorem Ge.stay (hE:Ge tb mb V w V1 w1)(h:Dq tb mb B keep names vs U D many count V w)(h0:Ext [] w0 w)(ht:w0.heap.size<=tb)(hm:w0.heap.size<=mb):Ext [] w0 w1:=Cx h0 hE.2 (h.low ht hm)
end
def Lb (w:World)(A:Option Addr)(names:List ByteArray):Prop:=names=[]\/∃(b:Nat) (C:Array Value),A=some b/\Blk w b 9 C/\∀(i:Nat) (x:ByteArray),names[i]? = some x->C[i]? = some (.string x)
theorem Lb.ext {w w':World}{A:Option Addr}{names:List ByteArray}(h:Lb w A names){S:List Nat}(hE:Ext S w w')(hS:∀b C,Blk w b 9 C->b∉S):Lb w' A names:=by
 rcases h with h|⟨b,C,h1,h2,h3⟩
 ·exact .inl h
 ·exact .inr ⟨b,C,h1,h2.ext hE (hS b C h2),h3⟩
theorem Lb.seq {w:World}{A:Option Addr}{names:List ByteArray}(h:Lb w A names)(hn:names.length<=1000000):Al w A 1 sC names:=by
 rcases h with h|⟨b,C,h1,h2,h3⟩
 ·subst h;exact Ev _ _ _ _
 ·refine⟨hn,.inr ⟨b,h1,fun i x hx j v hv=>?_⟩⟩
  have hj:j=0:=by
   have:=(ils hv).1;simp[sC] at this;omega
  subst hj;cases hv
  rw[h2.cell,Nat.mul_one,Nat.add_zero];exact h3 i x hx
theorem Ge.nam {tb mb B U many count:Nat}{keep:Bool}{names:List ByteArray}{vs:List Int}{D:List RtD}{V V1:Option Nat}{w w1:World}{A:Option Addr}{l:List ByteArray}(hE:Ge tb mb V w V1 w1)(h:Dq tb mb B keep names vs U D many count V w)(k:Lb w A l):Lb w1 A l:=k.ext hE.2 fun b C hC=>h.far hC (by decide) (by decide)
theorem Ais.snoc {names:List ByteArray}{nm:ByteArray}(h:Ais names)(hn:Dt names nm=false):Ais (names ++ [nm]):=by
 have a1:∀(i:Nat) (x:ByteArray),names[i]? = some x->eqS x nm=false:=fun i x hx=>by
  have h1:=List.any_eq_false.1 hn x (ilm hx);rw[Fv];simpa using h1
 intro i j x y hi hj he;rw[List.getElem?_append] at hi hj;split at hi<;>split at hj
 ·exact h i j x y hi hj he
 ·rename_i h1 h2
  have hy:y=nm:=by
   have:=ilm hj;simpa using this
  subst hy;rw[a1 i x hi] at he;cases he
 ·rename_i h1 h2
  have hx:x=nm:=by
   have:=ilm hi;simpa using this
  subst hx;rw[Fv,a1 j y hj] at he;cases he
 ·rename_i h1 h2
  have h3:=(ils hi).1;have h4:=(ils hj).1;simp only[jS] at h3 h4;omega
structure NmG (names:List ByteArray)(vs:List Int):Prop where
 len:vs.length=names.length
 eight:names.length<=8
 bdd:∀v∈vs,Bdd v
 size:∀x∈names,ByteArray.size x<=8
 dis:Ais names
theorem NmG.inner {names:List ByteArray}{vs:List Int}(h:NmG names vs){nm:ByteArray}{x:Int}(h8:names.length<8)(hn:Dt names nm=false)(hs:nm.size<=8)(hx:Bdd x):NmG (names ++ [nm]) (vs ++ [x]):=
 ⟨by simp[h.len],by simp;omega,fun v hv=>by rcases jN.1 hv with hv|hv;exact h.bdd v hv;rw[jA.1 hv];exact hx,
  fun v hv=>by rcases jN.1 hv with hv|hv;exact h.size v hv;rw[jA.1 hv];exact hs,h.dis.snoc hn⟩
theorem NmG.nil:NmG [] []:=⟨rfl,by simp,by simp,by simp,fun i j x y hi=>by simp at hi⟩
section
variable {ops:Array Oper} {rest:List Oper} {o:Oper} {a:Act} {w:World} {Q:Exit->Act->World->Prop}
theorem Mu (hg:o.guard=none)(m x v:Operand)(hop:o.op=Op.mapUpdate 85 m x v)(b U:Nat)(names:List ByteArray)(vs:List Int)(nm:ByteArray)(y:Int)(hm:a.eval m=.map (some b))(h:MpR w b names vs U)(hx:a.eval x=.string nm)(hv:a.eval v=.int .i64 y)
  (hl:vs.length=names.length) (hno:Dt names nm=false) (hs:nm.size<=1000000) (hy:Bdd y) (hU:U<=100000000)
  (hK:∀w',MpR w' b (names ++ [nm]) (vs ++ [y]) (U+1)->Ext [b] w w'->wpList prog ops Q rest (a.put o.dst undef) w'):wpList prog ops Q (o :: rest) a w:=by
 refine wpList_plain hg fun K' hK'=>?_
 obtain⟨w',a1,r1,r2⟩:=h.put hl nm y hno hs hy hU;unfold Oper.wp;simp[execOp,hop,hm,hx,hv,a1,Result.andThen];exact hK' _ _ (hK w' r1 r2)
end
theorem Aar {α:Type}{f:Nat->List α}{j:Nat}:∀{n:Nat},j<=n->∃r,Cj n f=Cj j f ++ r
 | 0,h=>⟨[],by
          have:j=0:=by omega
          subst this;simp⟩
 | n+1,h=>by
  by_cases hj:j=n+1
  ·subst hj;exact⟨[],by simp⟩
  ·obtain⟨r,hr⟩:=Aar (f:=f) (j:=j) (n:=n) (by omega);exact⟨r ++ f n,by rw[Bq,hr,jP]⟩
def Af4 (tb mb B:Nat)(keep:Bool)(names:List ByteArray)(vs:List Int)(U:Nat)(D:List RtD)(many count:Nat)(V:Option Nat)(I:List Az)(X:List RtD)(w:World)(e:Ending)(w':World):Prop:=
 e=.returned (.tuple #[])/\∃V',Ge tb mb V w V' w'/\Dq tb mb B keep names vs U (D ++ kL keep X) (many+Bt I) (count+I.length) V' w'
def TbC (l:List St):Prop:=∀(tb mb B nb no count U many:Nat) (keep:Bool) (NA:Option Addr) (nc:Nat) (names:List ByteArray) (vs:List Int) (w0 w:World) (A:Option Addr) (cap:Nat) (D:List RtD) (V:Option Nat),
 NmG names vs->w0.heap.size<=tb->w0.heap.size<=mb->Dq tb mb B keep names vs U D many count V w->Al w0 A 21 stC l->(∀s∈l,Gb w0 s)->(∀s∈l,Fd nb names s)->Ext [] w0 w->Lb w NA names->VzP NA names.length nc->no+Ab l<=3000->U+2*Ax (names.zip vs) l<=100000000->Tz keep D many count (Aj (names.zip vs) no l)->
  Calls prog 91 #[.pointer (some tb),.slice A l.length cap,no,.slice NA names.length nc,.map (some mb)] w
   (Af4 tb mb B keep names vs (U+2*Ax (names.zip vs) l) D many count V (Aj (names.zip vs) no l) (rqL (names.zip vs) no count l) w)
theorem Wl (tb mb B nb no count U many nc:Nat)(keep rd wr:Bool)(NA:Option Addr)(names:List ByteArray)(vs:List Int)(h:SH)(w0:World)(D:List RtD)(V:Option Nat)(w:World)(hG:NmG names vs)(hw0:w0.heap.size<=tb)
  (hT:Dq tb mb B keep names vs U D many count V w) (hX:Gb w0 (.mk h [])) (hF:Fd nb names (.mk h [])) (hk3:h.k=3) (hE0:Ext [] w0 w) (hN:Lb w NA names) (hk9:keep=true->D.length+rdE h.val+1<=50000) (hm9:many+rdE h.val+1<=1000000000000000) (hc9:count<=1000000000) :
  Calls prog 134 #[.pointer (some tb),.agg (plA h no NA names.length nc),.map (some mb),.bool rd,.bool wr] w fun e w'=>e=.returned (.tuple #[])/\∃V',Ge tb mb V w V' w'/\
   Dq tb mb B keep names vs U (D ++ kL keep (kL rd (rqI (names.zip vs) no h count) ++ kL wr (rqW (names.zip vs) no h count))) (many+(kN rd (rdE h.val)+kN wr 1)) (count+1) V' w':=by
 obtain⟨hb,hi,h1,h2,h3⟩:=hT
 obtain⟨ha,hx,hf⟩:Cn names h.at_=0/\Bw names nb h.val=0/\Kb 0 1 h.val=true:=by
  cases hF with
  | loop _ _ _ hk=>omega
  | when _ _ _ hk=>omega
  | store _ _ _ _ _ h1 h2 h3=>exact⟨h1,h2,h3⟩
 have a1:=hX.all;have a2:=(Jg.1 hf).1;refine(Af2 tb B hi mb nb no count U many nc keep rd wr NA names vs h w0 D V w hG.len (by have h1:=hG.len;have h2:=hG.eight;omega) hG.bdd hG.size hG.dis hw0 h2 h1 a1.2.2.1 a1.2.2.2.1 hE0 ha hx (by omega) h3 (hN.seq (by have:=hG.eight;omega)) hk9 hm9 hc9).mono ?_
 rintro e w' ⟨V',a6,rfl,hL,hE,hh,a7,a8⟩;refine⟨rfl,V',⟨hL,hE.mono fun x hx=>?_⟩,hb,a6,a7,?_,h3.ext hE fun hm=>?_⟩
 ·left
  rcases jE.1 hx with rfl|hx
  ·simp
  ·exact jI _ (jI _ hx)
 ·unfold rqI rqW;rw[Akw hG.len];exact a8
 ·rcases jE.1 hm with h4|hm
  ·obtain⟨-,-,v,O,-,-,hB,-⟩:=h2;exact h3.apart hB h4
  ·obtain⟨-,C,hC⟩:=h2.own (jC.1 hm);exact h3.apart hC rfl
end
set_option maxRecDepth 100000 in
theorem Aiv (tb mb B nb no count U many:Nat)(keep:Bool)(NA:Option Addr)(nc:Nat)(names:List ByteArray)(vs:List Int)(w0 w:World)(h:SH)(b:List St)(D:List RtD)(V0:Option Nat)
  (hG:NmG names vs) (htb:w0.heap.size<=tb) (hmb:w0.heap.size<=mb) (hQ:Dq tb mb B keep names vs U D many count V0 w) (hX:Gb w0 (.mk h b)) (hF:Fd nb names (.mk h b)) (hk:h.k=1) (hv:h.vec=false) (hE0:Ext [] w0 w) (hN:Lb w NA (names ++ [h.var])) (hz:VzP NA (names ++ [h.var]).length nc)
  (hno:no+Ab b<=3000) (hU:U+2*Ga (names.zip vs) (.mk h b)<=100000000) (hR:Tz keep D many count (Br (names.zip vs) no (.mk h b))) (ih:TbC b) :
  Calls prog 136 #[.pointer (some tb),Et h b.length,no,.slice NA (names ++ [h.var]).length nc,.map (some mb)] w
   (Af4 tb mb B keep names vs (U+2*Ga (names.zip vs) (.mk h b)) D many count V0 (Br (names.zip vs) no (.mk h b)) (rqS (names.zip vs) no count (.mk h b)) w):=by
 obtain⟨aO,aA,bb,aP,aQ,aB,aR⟩:Df h.var=true/\Dt names h.var=false/\names.length<8/\(-100000<=h.lo/\h.lo<=100000)/\(-100000<=h.hi/\h.hi<=100000)/\(1<=h.step/\h.step<=100000)/\∀s∈b,Fd nb (names ++ [h.var]) s:=by
  cases hF with
  | loop _ _ _ _ h1 h2 h3 h4 h5 h6 h7 h8=>exact⟨h1,h2,h3,h4,h5,h6,h8⟩
  | when _ _ _ hk'=>omega
  | store _ _ hk'=>omega
 have aa:=hX.all;have aU:=hd aa.2.2.2.2.2.2.1;have aV:=hd aa.2.2.2.2.2.2.2;have HZ:=hd aa.2.2.2.2.2.1;have aD:=hd (fun k=>@Nd h k aB.1);have aW:=hd (fun k=>Nf h k);have aX:=hd (fun j hj=>Ee (h:=h) (k:=j) aP aQ aB hj);have aY:h.var.size<=8:=((Hm h.var).1 aO).1.2;have aZ:=hd (fun j (hj:j<An h)=>hG.inner bb aA aY (Ee aP aQ aB hj));have aE:Ek h 0=h.lo:=by simp[Ek]
 have an:=hd (fun j=>show Bb (names.zip vs) h j=(names ++ [h.var]).zip (vs ++ [Ek h j]) from(Pf hG.len _ _).symm);have ao:=hd (Is (env:=names.zip vs) (no:=no) (b:=b) hk hv);have aF:=hd (Aky (env:=names.zip vs) (no:=no) (c:=count) (b:=b) hk hv);have ap:=hd (Sd (env:=names.zip vs) (b:=b) hk hv);obtain⟨IN,ah⟩:∃IN:Nat->List Az,∀j,IN j=Aj (Bb (names.zip vs) h j) no b:=⟨_,fun _=>rfl⟩;obtain⟨CN,a8⟩:∃CN:Nat->List Az,∀j,CN j=Cj j fun k=>Aj (Bb (names.zip vs) h k) no b:=⟨_,fun _=>rfl⟩
 obtain⟨QN,ak⟩:∃QN:Nat->List RtD,∀j,QN j=rqL (Bb (names.zip vs) h j) no (count+(CN j).length) b:=⟨_,fun _=>rfl⟩;obtain⟨XN,ad⟩:∃XN:Nat->List RtD,∀j,XN j=Cj j fun k=>rqL (Bb (names.zip vs) h k) no (count+(Cj k fun j=>Aj (Bb (names.zip vs) h j) no b).length) b:=⟨_,fun _=>rfl⟩
 obtain⟨RN,al⟩:∃RN:Nat->Nat,∀j,RN j=Ax (Bb (names.zip vs) h j) b:=⟨_,fun _=>rfl⟩;obtain⟨SN,ab⟩:∃SN:Nat->Nat,∀j,SN j=Kc j fun k=>1+Ax (Bb (names.zip vs) h k) b:=⟨_,fun _=>rfl⟩
 have aq:=Pr (An h) fun k=>Ax (Bb (names.zip vs) h k) b
 have aG:Hd (∀j,SN (j+1)=SN j+(1+RN j)):=hd fun j=>by rw[ab,ab,al];exact Hh j _
 have aH:Hd (∀j,j<=An h->SN j<=SN (An h)):=hd fun j hj=>by rw[ab,ab];exact Wi _ hj
 have au:Hd (∀j,CN (j+1)=CN j ++ IN j):=hd fun j=>by rw[a8,a8,ah];exact Bq j _
 have aI:Hd (∀j,XN (j+1)=XN j ++ QN j):=hd fun j=>by rw[ad,ad,ak,a8];exact Bq j _
 have b0:Hd (∀j,(QN j).length=Bt (IN j)):=hd fun j=>by rw[ak,ah];exact Ya ..
 have b1:Hd (∀j,(XN j).length=Bt (CN j)):=hd fun j=>by
  induction j with
  | zero=>rw[ad,a8];rfl
  | succ j ih=>rw[aI.o,au.o,jG,Bu,ih,b0.o]
 have b2:Hd (∀j,j<An h->Tz keep (D ++ kL keep (XN j)) (many+Bt (CN j)) (count+(CN j).length) (IN j)):=hd fun j hj=>by
  rw[ao.o,<-a8] at hR;obtain⟨r,hr⟩:∃r,CN (An h)=CN (j+1) ++ r:=by rw[a8,a8];exact Aar (by omega)
  rw[hr,au.o,jP] at hR;exact(hR.post (b1.o j)).pre
 have aw:Hd (SN 0=0):=hd (by rw[ab];rfl);have ax:Hd (CN 0=[]):=hd (by rw[a8];rfl);have ay:Hd (XN 0=[]):=hd (by rw[ad];rfl);have bd:U+2*(1+SN (An h))<=100000000:=by rw[ap.o,<-aq,<-ab] at hU;exact hU
 have aJ:=hd (fun W j (hj:j<An h) V' (hq:Dq tb mb B keep (names ++ [h.var]) (vs ++ [Ek h j]) (U+2*SN j+1) (D ++ kL keep (XN j)) (many+Bt (CN j)) (count+(CN j).length) V' W) (hE':Ext [] w0 W) (hN':Lb W NA (names ++ [h.var]))=>
  ih tb mb B nb no (count+(CN j).length) (U+2*SN j+1) (many+Bt (CN j)) keep NA nc (names ++ [h.var]) (vs ++ [Ek h j]) w0 W h.A h.cap (D ++ kL keep (XN j)) V' (aZ.o j hj) htb hmb hq aU.o aV.o aR hE' hN' hz hno (by
   have h1:=aG.o j;have h2:=aH.o (j+1) (by omega);rw[<-an.o,<-al];omega) (by rw[<-an.o,<-ah];exact b2.o j hj))
 simp only[<-an.o,<-al,<-ah,<-ak] at aJ;rw[ao.o,aF.o,ap.o,<-aq,<-ab,<-a8,<-ad];have aK:=hd hG.len;have b3:=hd aA;have HQ:=hd hQ;have b4:=hd hE0;have HN:=hd hN;clear hQ hX hF hk hE0 hN hz hU hR aq ah a8 ak ad al ab aa aO aA aR hG ao aF ap;unfold Et;obtain⟨a0,a1,a2,a3,a4,a5,a6,a7,-⟩:=Ch h b.length h.val.h h.val.ks.length;have ae:=hd (jK w 43 (Ai h b.length h.val.h h.val.ks.length));have ai:=hd ((jF [] w).alloc (.cells (Ai h b.length h.val.h h.val.ks.length) 43));rw[<-aE] at a2;generalize An h=mn at *;generalize bc:Ek h=V at *;clear bc aE;generalize Ai h b.length h.val.h h.val.ks.length=arr at *;rw[hv] at a5;generalize b.length=bn at *;generalize bk:(names ++ [h.var]).length=nn at *;go_enter func136,ntmps136
 go_upto_region 1 with fail
 have ac:=hd (HQ.o.grow ai.o);have b5:=hd (HN.o.ext ai.o (by simp));have b6:=hd (b4.o.trans ai.o);have be:(World.alloc w (.cells arr 43)).heap.size=w.heap.size+1:=Ad _ _;generalize World.alloc w _=w1 at *;generalize bl:w.heap.size=s0 at *;have q1:=ae.o.cell;have ql:=ae.o.lt;go_wp2_with fail
 clear q1 ql;go_loopw [10] (fun x wr=>∃(j:Nat) (V2:Option Nat),x=.int .i64 (V j)/\j<=mn/\Hd (Ge tb mb V0 w1 V2 wr)/\Hd (Dq tb mb B keep names vs (U+2*SN j) (D ++ kL keep (XN j)) (many+Bt (CN j)) (count+(CN j).length) V2 wr)) (fun x _=>(200000-intOf x).toNat)
 case atStart=>exact⟨0,V0,rfl,jQ _,hd Ge.refl,hd (by rw[aw.o,ax.o,ay.o];simpa[kL,Bt] using ac.o)⟩
 case round=>
  obtain⟨j,V2,rfl,hj,HE,aC⟩:=hrel;rename World=>wq
  have aL:=hd (HE.o.blk ac.o ae.o (by decide) (by decide));have q1:=aL.o.cell;have ql:=aL.o.lt;by_cases am:j<mn
  ·have e1:V j<h.hi:=(aD.o j).2 am;have aM:=aX.o j am;have bf:=aW.o j;have bh:=aH.o (j+1) (by omega);have bi:=aG.o j;have b7:=hd aM;unfold Bdd at aM
   go_upto_region 6 with(
    refine Mu rfl _ _ _ rfl mb (U+2*SN j) names vs h.var (V j) rfl aC.o.map rfl rfl aK.o b3.o HZ.o b7.o (by omega) ?_
    intro w9 hm9 hE9;have b8:=hd (aC.o.put hE9 hm9);have aj:Hd (Ge tb mb V0 w1 (V2) w9):=hd (HE.o.one hE9 (.inr (.inl rfl)));clear hm9 hE9 q1 ql)
   simp only[PT];have aN:=hd (aj.o.blk ac.o ae.o (by decide) (by decide));have q1:=aN.o.cell;have ql:=aN.o.lt;go_wp2_with fail
   refine(aJ.o w9 j am V2 b8.o (aj.o.stay ac.o b6.o htb hmb) (aj.o.nam ac.o b5.o)).mono ?_
   rintro e bj ⟨rfl,V3,aS,aT⟩;have af:=hd (aj.o.trans aS);have az:=hd aT;have ag:=hd (af.o.blk ac.o ae.o (by decide) (by decide));clear aS aT q1 ql;have q1:=ag.o.cell;have ql:=ag.o.lt;go_wp2_with fail
   go_roundw
   case rel=>
    refine⟨j+1,V3,rfl,by omega,af,hd ?_⟩
    have h1:=(az.o.pop aK.o).more (U':=U+2*SN (j+1)) (by omega);rw[aI.o,au.o,Nm,Bu,jG,<-jP,<-Nat.add_assoc,<-Nat.add_assoc];exact h1
   case measure=>simp[intOf];omega
  ·have ba:j=mn:=by omega
   subst ba;have e0:¬V j<h.hi:=fun hh=>am ((aD.o j).1 hh)
   have e1:decide (V j<h.hi)=false:=by simpa using e0
   clear e0;go_wp2_with fail
   exact bodyPost_ret (results_none rfl _ _ _) rfl ⟨rfl,V2,⟨fun g hg=>(HE.o.1 g hg).imp id fun h1=>by omega,ai.o.nil.trans HE.o.2⟩,aC.o.more (by omega)⟩
section
structure VecQ (env:Env)(h th:SH)(no c0 mn:Nat)(keep:Bool)(D0:List RtD)(many0:Nat)(PD:Nat->List RtD)(PW:Bool->Nat->List RtD)(PM PC PU:Nat->Nat)(PJ:Bool->Nat->Nat):Prop where
 d0:PD 0=[]
 t0:∀x,PW x 0=[]
 m0:PM 0=0
 j0:∀x,PJ x 0=0
 c0':PC 0=0
 u0:PU 0=0
 ts:∀x j,PW x (j+1)=PW x j ++ (kL (!x) (rqI (Bb env h j) no th (c0+j)) ++ kL x (rqW (Bb env h j) no th (c0+j)))
 js:∀x j,PJ x (j+1)=PJ x j+(kN (!x) (rdE th.val)+kN x 1)
 ds:∀p x,(p=0/\x=false\/p=1/\x=true)->PD (p+1)=PD p ++ PW x mn
 ms:∀p x,(p=0/\x=false\/p=1/\x=true)->PM (p+1)=PM p+PJ x mn
 us:∀p,PU (p+1)=PU p+mn
 cs:∀p,PC (p+1)=mn
 dd:PD 2=(Cj mn fun i=>rqI (Bb env h i) no th (c0+i)) ++ (Cj mn fun i=>rqW (Bb env h i) no th (c0+i))
 mm:PM 2=mn*(rdE th.val+1)
 rm:∀p x j,(p=0/\x=false\/p=1/\x=true)->j<mn->(keep=true->(D0 ++ kL keep (PD p ++ PW x j)).length+rdE th.val+1<=50000)/\many0+(PM p+PJ x j)+rdE th.val+1<=1000000000000000
 ub:∀p,p<=1->PU p+mn<=2*mn
theorem Aiw (env:Env)(h th:SH)(no c0 mn:Nat)(keep:Bool)(D0:List RtD)(many0:Nat)(hk:keep=true->D0.length+mn*(rdE th.val+1)<=20000)(hm:many0+mn*(rdE th.val+1)<=100000000000000) :
  ∃PD PW PM PC PU PJ,VecQ env h th no c0 mn keep D0 many0 PD PW PM PC PU PJ:=by
 generalize hr:rdE th.val=r at *;let PW:Bool->Nat->List RtD:=fun x j=>Cj j fun i=>kL (!x) (rqI (Bb env h i) no th (c0+i)) ++ kL x (rqW (Bb env h i) no th (c0+i))
 let PD:Nat->List RtD:=fun p=>match p with|0=>[]|1=>PW false mn|_=>PW false mn ++ PW true mn
 let PJ:Bool->Nat->Nat:=fun x j=>j*(kN (!x) r+kN x 1)
 let PM:Nat->Nat:=fun p=>match p with|0=>0|1=>PJ false mn|_=>PJ false mn+PJ true mn
 have a1:∀x j,(PW x j).length=PJ x j:=fun x j=>by
  refine Ph (fun i=>?_) j
  cases x
  ·simp[kL,kN,Xx,hr]
  ·simp[kL,kN,Xy]
 have hf:PJ false mn=mn*r:=by simp[PJ,kN]
 have ht:PJ true mn=mn:=by simp[PJ,kN]
 have a2:∀j,PJ false j=j*r:=fun j=>by simp[PJ,kN]
 have a6:∀j,PJ true j=j:=fun j=>by simp[PJ,kN]
 refine⟨PD,PW,PM,fun p=>if p=0 then 0 else mn,fun p=>p*mn,PJ,rfl,fun x=>rfl,rfl,fun x=>by simp[PJ],rfl,by simp,fun x j=>Bq j _,fun x j=>by rw[hr];simp only[PJ,Nat.add_mul,Nat.one_mul],?_,?_,fun p=>by simp only[Nat.add_mul,Nat.one_mul],fun p=>by simp,?_,?_,?_,?_⟩
 ·rintro p x (⟨rfl,rfl⟩|⟨rfl,rfl⟩)
  ·simp[PD]
  ·rfl
 ·rintro p x (⟨rfl,rfl⟩|⟨rfl,rfl⟩)
  ·simp[PM]
  ·rfl
 ·simp only[PD,PW,kL,Bool.not_false,Bool.not_true,if_true,Bool.false_eq_true,if_false,List.append_nil,List.nil_append]
 ·show PJ false mn+PJ true mn=_
  rw[hf,ht,hr,Nat.mul_add,Nat.mul_one]
 ·rw[Nat.mul_add,Nat.mul_one] at hk hm;have h1:0<mn->r<=mn*r:=fun h=>Nat.le_mul_of_pos_left r h
  rintro p x j (⟨rfl,rfl⟩|⟨rfl,rfl⟩) hj
  ·have h2:j*r+r<=mn*r:=by
    have:=Nat.mul_le_mul_right r (show j+1<=mn by omega);rw[Nat.add_mul,Nat.one_mul] at this;exact this
   refine⟨fun hk2=>?_,?_⟩
   ·subst hk2;have h3:=hk rfl;have h4:=a1 false j;rw[a2] at h4;simp only[kL,if_true,jG,h4];show D0.length+(([]:List RtD).length+j*r)+rdE th.val+1<=50000
    rw[hr];simp only[List.length_nil];omega
   ·show many0+(0+PJ false j)+rdE th.val+1<=_
    rw[hr,a2];have:=h1 (by omega);omega
  ·refine⟨fun hk2=>?_,?_⟩
   ·subst hk2;have h3:=hk rfl;have h4:=a1 true j;have h5:=a1 false mn;rw[a6] at h4;rw[hf] at h5;have h6:=h1 (by omega);simp only[kL,if_true,jG,h4];show D0.length+((PW false mn).length+j)+rdE th.val+1<=50000
    rw[hr,h5];omega
   ·show many0+(PJ false mn+PJ true j)+rdE th.val+1<=_
    rw[hr,hf,a6];have:=h1 (by omega);omega
 ·intro p hp;have:p*mn<=1*mn:=Nat.mul_le_mul_right _ hp;show p*mn+mn<=_
  omega
section
variable {ops:Array Oper} {rest:List Oper} {o:Oper} {a:Act} {w:World} {Q:Exit->Act->World->Prop} {P:Program}
theorem Eo (hg:o.guard=none)(t:TypeId)(Ap:Array (Nat×Operand))(ho:o.op=.build t Ap)(cells:Array Value)(hc:P.built t (Ap.map fun(i,x)=>(i,a.eval x)).toList=some cells)
  (h:wpList P ops Q rest (a.put o.dst (.agg cells)) w):wpList P ops Q (o :: rest) a w:=
 Bk hg (.agg cells) w (by unfold execOp;simp only[ho,Sem.run_bind,run_build w t _ cells hc,Result.andThen_ok];rfl) h
end
theorem Aas (h:SH)(no:Nat)(NA:Option Addr)(n nc:Nat):prog.built 229 [(0,.agg (Ai h 0 h.val.h h.val.ks.length)),(1,.int .i64 no),(2,.slice NA n nc)]=some (plA h no NA n nc):=by kernel_rfl
section
variable {tb mb B U many count:Nat} {keep:Bool} {names:List ByteArray} {vs:List Int} {D:List RtD} {V:Option Nat} {w:World}
theorem Dq.tch (h:Dq tb mb B keep names vs U D many count V w):∃v,Blk w tb 163 #[v,many,.bool keep,count]:=by
 obtain⟨hb,hi,h1,⟨-,-,v,O,-,-,hB,-⟩,h3⟩:=h;exact⟨v,hB⟩
theorem Dq.cnt (h:Dq tb mb B keep names vs U D many count V w)(count':Nat):Dq tb mb B keep names vs U D many count' V (w.setCell ⟨tb,3,none⟩ count'):=by
 have ht:=h.tch;obtain⟨hb,hi,h1,h2,h3⟩:=h;have hE:Ext [tb] w (w.setCell ⟨tb,3,none⟩ count'):=jL (.inl (by simp)) (jF [tb] w);refine⟨hb,hi,nt h1 hE.size,h2.set hE fun v hB=>hB.set_' 3 _ _ (by simp),h3.ext hE ?_⟩
 obtain⟨v,hB⟩:=ht;rw[jA];exact h3.apart hB
end
set_option maxRecDepth 100000 in
theorem Aix (tb mb B nb no count U many:Nat)(keep:Bool)(NA:Option Addr)(nc:Nat)(names:List ByteArray)(vs:List Int)(w0 w:World)(h:SH)(b:List St)(D:List RtD)(V0:Option Nat)
  (hG:NmG names vs) (htb:w0.heap.size<=tb) (hmb:w0.heap.size<=mb) (hQ:Dq tb mb B keep names vs U D many count V0 w) (hX:Gb w0 (.mk h b)) (hF:Fd nb names (.mk h b)) (hk:h.k=1) (hv:h.vec=true) (hE0:Ext [] w0 w) (hN:Lb w NA (names ++ [h.var])) (hz:VzP NA (names ++ [h.var]).length nc)
  (hno:no+Ab b<=3000) (hU:U+2*Ga (names.zip vs) (.mk h b)<=100000000) (hR:Tz keep D many count (Br (names.zip vs) no (.mk h b))) :
  Calls prog 136 #[.pointer (some tb),Et h b.length,no,.slice NA (names ++ [h.var]).length nc,.map (some mb)] w
   (Af4 tb mb B keep names vs (U+2*Ga (names.zip vs) (.mk h b)) D many count V0 (Br (names.zip vs) no (.mk h b)) (rqS (names.zip vs) no count (.mk h b)) w):=by
 obtain⟨ba,aN,c3,bc,bd,aO,aP,aQ⟩:Df h.var=true/\Dt names h.var=false/\names.length<8/\(-100000<=h.lo/\h.lo<=100000)/\(-100000<=h.hi/\h.hi<=100000)/\(1<=h.step/\h.step<=100000)/\(∀s∈b,s.h.k=3)/\∀s∈b,Fd nb (names ++ [h.var]) s:=by
  cases hF with
  | loop _ _ _ _ h1 h2 h3 h4 h5 h6 h7 h8=>exact⟨h1,h2,h3,h4,h5,h6,h7 hv,h8⟩
  | when _ _ _ hk'=>omega
  | store _ _ hk'=>omega
 have aa:=hX.all;have bp:=hd aa.2.2.2.2.2.2.1;have bq:=hd aa.2.2.2.2.2.2.2;have HZ:=hd aa.2.2.2.2.2.1;have aS:=hd (fun k=>@Nd h k aO.1);have br:=hd (fun k=>Nf h k);have bt:=hd (fun j hj=>Ee (h:=h) (k:=j) bc bd aO hj);have H3:=hd aP;have bu:=hd aQ;have bv:h.var.size<=8:=((Hm h.var).1 ba).1.2;have bx:=hd (fun j (hj:j<An h)=>hG.inner c3 aN bv (Ee bc bd aO hj));have aT:Ek h 0=h.lo:=by simp[Ek]
 have bz:=hd (fun j=>show Bb (names.zip vs) h j=(names ++ [h.var]).zip (vs ++ [Ek h j]) from(Pf hG.len _ _).symm);have aU:Ab b=b.length:=Ll aP aQ
 have bA:Hd (∀k th,b[k]? = some (.mk th [])->(keep=true->(D ++ kL keep (rqV (names.zip vs) h no count (b.take k))).length+An h*(rdE th.val+1)<=20000)/\many+Bt (Cd (names.zip vs) h no (b.take k))+An h*(rdE th.val+1)<=100000000000000/\count+k*An h+An h<=1000000000):=hd fun k th hx=>by
  rw[Hj hk hv] at hR
  obtain⟨r,hr⟩:∃r,Cd (names.zip vs) h no b=(Cd (names.zip vs) h no (b.take k) ++ Fi (names.zip vs) h (no+k) (.mk th []) (An h)) ++ r:=⟨Cd (names.zip vs) h (no+(b.take (k+1)).length) (b.drop (k+1)),by
   rw[<-It hx,<-Js,List.take_append_drop]⟩
  rw[hr,jP,<-jP] at hR;have h1:=hR.pre;have h2:=(h1.post (Xz _ _ _ _ count)).1;obtain⟨h3,h4,h5⟩:=h1;rw[Bu,Kw] at h3 h4;rw[Kw] at h2;have c5:=(ils hx).1;rw[jG,Kx,List.length_take,Nat.min_eq_left (by omega)] at h5;simp only[Fi,List.length_map,List.length_range] at h5;exact⟨h2,by show _+_+An h*(rdE (St.mk th []).h.val+1)<=_;omega,by omega⟩
 have HU:Hd (∀k,k<=b.length->U+2*(k*An h)<=100000000):=hd fun k hk2=>by
  rw[Os hk hv,Nat.mul_add (An h),Nat.mul_one,Nat.mul_comm (An h)] at hU;have:=Nat.mul_le_mul_right (An h) hk2;omega
 have bB:Hd (U+2*(b.length*An h)<=U+2*Ga (names.zip vs) (.mk h b)):=hd (by
  rw[Os hk hv,Nat.mul_add (An h),Nat.mul_one,Nat.mul_comm (An h)];omega)
 have aV:=hd (Hj (env:=names.zip vs) (no:=no) (b:=b) hk hv);have aW:=hd (Akx (env:=names.zip vs) (no:=no) (c:=count) (b:=b) hk hv);have bC:=hd (Kx (names.zip vs) h b no);rw[aV.o,aW.o];have aX:=hd hG.len;have bD:=hd aN;have HQ:=hd hQ;have bE:=hd hE0;have HN:=hd hN;have bF:=hd (fun k x (hx:b[k]? = some x)=>It (env:=names.zip vs) (h:=h) (no:=no) hx);have bG:=hd (fun k x (hx:b[k]? = some x)=>Ait (env:=names.zip vs) (h:=h) (no:=no) (c:=count) hx);have bH:=aU;have c6:no+b.length<=3000:=by omega
 clear hQ hX hF hk hE0 hN hz hU hR aa ba aN aQ hG aV aW aP aU bH hno;unfold Et;obtain⟨a0,a1,a2,a3,a4,a5,a6,a7,-⟩:=Ch h b.length h.val.h h.val.ks.length;have aj:=hd (jK w 43 (Ai h b.length h.val.h h.val.ks.length));have aw:=hd ((jF [] w).alloc (.cells (Ai h b.length h.val.h h.val.ks.length) 43));rw[<-aT] at a2;generalize bl:An h=mn at *;have bI:=hd bl;clear bl;generalize c4:Ek h=V at *;clear c4 aT;generalize Ai h b.length h.val.h h.val.ks.length=arr at *;rw[hv] at a5;generalize bm:b.length=bn at *;have aY:=hd bm;clear bm;generalize bo:(names ++ [h.var]).length=nn at *;have bJ:=hd bo;clear bo;go_enter func136,ntmps136
 go_upto_region 1 with fail
 have ab:=hd (HQ.o.grow aw.o);have bK:=hd (HN.o.ext aw.o (by simp));have aZ:=hd (bE.o.trans aw.o);have c7:(World.alloc w (.cells arr 43)).heap.size=w.heap.size+1:=Ad _ _;generalize World.alloc w _=w1 at *;generalize ck:w.heap.size=s0 at *;have q1:=aj.o.cell;have ql:=aj.o.lt;go_wp2_with fail
 clear q1 ql;go_loopw [44] (fun i wr=>∃(k:Nat) (V2:Option Nat),i=.int .i64 k/\k<=bn/\Hd (Ge tb mb V0 w1 V2 wr)/\Hd (Dq tb mb B keep names vs (U+2*(k*mn)) (D ++ kL keep (rqV (names.zip vs) h no count (b.take k))) (many+Bt (Cd (names.zip vs) h no (b.take k))) (count+k*mn) V2 wr)) (fun i _=>(bn-intOf i).toNat)
 case atStart=>exact⟨0,V0,rfl,jQ _,hd Ge.refl,hd (by simpa[kL,Bt,rqV,Cd] using ab.o)⟩
 case round=>
  obtain⟨k,V2,rfl,hk,HE,ay⟩:=hrel;rename World=>wq
  by_cases cn:k<bn
  ·obtain⟨bb,x,be,hx,hc⟩:=(bp.o.keep (HE.o.stay ab.o aZ.o htb hmb)).at (i:=k) (by have:=aY.o;omega);obtain⟨th,tl⟩:=x;have ac:=ilm hx;have b0:th.k=3:=H3.o _ ac;have aA:=bu.o _ ac
   have bL:tl=[]:=by
    cases aA with
    | loop _ _ _ hk'=>omega
    | when _ _ _ hk'=>omega
    | store=>rfl
   subst bL;obtain⟨bf,bh,ci⟩:=bA.o k th hx;obtain⟨PD,PW,PM,PC,PU,PJ,hP⟩:=Aiw (names.zip vs) h th (no+k) (count+k*mn) mn keep _ _ bf bh;have HP:=hd hP
   have bM:Hd (rqV (names.zip vs) h no count (b.take (k+1))=rqV (names.zip vs) h no count (b.take k) ++ PD 2):=hd (by
    rw[bG.o k _ hx,HP.o.dd,<-bI.o];rfl)
   have bN:Hd (Bt (Cd (names.zip vs) h no (b.take (k+1)))=Bt (Cd (names.zip vs) h no (b.take k))+PM 2):=hd (by
    rw[bF.o k _ hx,Bu,Kw,HP.o.mm];rfl)
   have bO:=HU.o (k+1) (by omega);have aB:(k+1)*mn=k*mn+mn:=by rw[Nat.add_mul,Nat.one_mul]
   rw[aB] at bO
   have a8:=hd (fun(x:Bool) (j:Nat) (hj:j<mn) p (hp:p=0/\x=false\/p=1/\x=true) U' V' W (hq:Dq tb mb B keep (names ++ [h.var]) (vs ++ [V j]) U' (D ++ kL keep (rqV (names.zip vs) h no count (b.take k)) ++ kL keep (PD p ++ PW x j)) (many+Bt (Cd (names.zip vs) h no (b.take k))+(PM p+PJ x j)) (count+k*mn+j) V' W) (hE':Ext [] w0 W) (hN':Lb W NA (names ++ [h.var]))=>
    Wl tb mb B nb (no+k) (count+k*mn+j) U' (many+Bt (Cd (names.zip vs) h no (b.take k))+(PM p+PJ x j)) nc keep (!x) x NA (names ++ [h.var]) (vs ++ [V j]) th w0 _ V' W (bx.o j hj) htb hq (bq.o _ ac) aA b0 hE' hN' ((HP.o.rm p x j hp hj).1) ((HP.o.rm p x j hp hj).2) (by omega))
   simp only[<-bz.o] at a8;have b1:=hd (Aas th (no+k) NA nn nc);rw[bJ.o] at a8;have ae:((no+k:Nat):Int)=(no:Int)+k:=by omega
   rw[ae] at b1;have HW:=hd (fun j v hv=>hc j v hv:∀(j:Nat) (v:Value),(Ai th 0 th.val.h th.val.ks.length).toList[j]? = some v->wq.cell? ⟨bb,k*21+j,none⟩=some v);have aC:=hd (jK wq 43 (Ai th 0 th.val.h th.val.ks.length));have al:=hd ((jF [] wq).alloc (.cells (Ai th 0 th.val.h th.val.ks.length) 43));have ah:=hd (show(prog.info? 43).map (·.size)=some (Ai th 0 th.val.h th.val.ks.length).size from Dx);have b2:=hd (show zSt.size=(Ai th 0 th.val.h th.val.ks.length).size from rfl);have b3:=hd (Da th 0 th.val.h th.val.ks.length);have aD:=hd HP.o.ts;have aE:=hd HP.o.js;have c8:=HP.o.d0;have bP:=hd HP.o.t0;clear hx hc ac aA b0 ae bf bh hP;generalize plA th (no+k) NA nn nc=arrP at *;generalize Ai th 0 th.val.h th.val.ks.length=arrT at *;rw[be] at a7;rw[be];have bQ:=hd aB;clear aB;generalize cl:k*mn=km at *;generalize hD:D ++ kL keep (rqV (names.zip vs) h no count (b.take k))=D0 at *;generalize hM:many+Bt (Cd (names.zip vs) h no (b.take k))=many0 at *;generalize hC:count+km=c0 at *;have c9:=ab.o.tch;have b4:=hd (HE.o.blk ab.o aj.o (by decide) (by decide));have q1:=b4.o.cell;have ql:=b4.o.lt
   go_upto_region 10 with(first
    | refine Ac rfl 43 _ rfl bb (k*21) rfl arrT HW.o _ underlying43 rfl ah.o ?_
    | refine Hb rfl rfl rfl 43 _ _ _ rfl rfl rfl zSt (Fy _) arrT _ rfl rfl rfl ah.o b2.o b3.o ?_)
   have aF:=hd (ay.o.grow al.o);have b5:=hd (HE.o.grow al.o);have bR:(World.alloc wq (.cells arrT 43)).heap.size=wq.heap.size+1:=Ad _ _;generalize World.alloc wq _=w2 at *;generalize cm:wq.heap.size=sb at *;clear q1 ql HW b2 b3 ay HE;obtain⟨vt,ag⟩:=aF.o.tch;have qt:=ag.cell;have aG:=ag.lt;clear ag;go_upto_region 11 with fail
   clear qt aG;have b6:=hd (jK w2 4 #[.bool false,.bool true]);have ai:=hd ((jF [] w2).alloc (.cells #[.bool false,.bool true] 4));have bS:=hd (aF.o.grow ai.o);have bT:=hd (b5.o.grow ai.o);have bU:=hd (aC.o.ext ai.o (by simp));have ca:=aC.o.lt;go_wp2_with fail
   generalize World.alloc w2 _=w3 at *;rw[bR] at b6;clear aF b5 aC;go_loopw [55] (fun i wr=>∃(p:Nat) (V3:Option Nat),i=.int .i64 p/\p<=2/\Hd (Ge tb mb V0 w1 V3 wr)/\Hd (Blk wr sb 43 arrT/\Blk wr (sb+1) 4 #[.bool false,.bool true])/\Hd (Dq tb mb B keep names vs (U+2*km+PU p) (D0 ++ kL keep (PD p)) (many0+PM p) (c0+PC p) V3 wr)) (fun i _=>(2-intOf i).toNat)
   case atStart=>exact⟨0,V2,rfl,by omega,bT,hd ⟨bU.o,b6.o⟩,hd (by rw[HP.o.d0,HP.o.m0,HP.o.c0',HP.o.u0];simpa[kL] using bS.o)⟩
   case round=>
    obtain⟨p,V3,rfl,hp,bi,ak,ap⟩:=hrel;rename World=>wp
    by_cases co:p<2
    ·obtain⟨x,bj⟩:∃x:Bool,p=0/\x=false\/p=1/\x=true:=by
      by_cases h0:p=0
      ·exact⟨false,.inl ⟨h0,rfl⟩⟩
      ·exact⟨true,.inr ⟨by omega,rfl⟩⟩
     have ax:=hd bj
     have qg:wp.cell? ⟨sb+1,p,none⟩=some (.bool x):=by
      rw[ak.o.2.cell];rcases ax.o with⟨rfl,rfl⟩|⟨rfl,rfl⟩<;>rfl
     have bV:=ak.o.2.lt;have cb:(p:Int)<2:=by omega
     obtain⟨vt,ag⟩:=ap.o.tch;have qt:=ag.cell;have bW:=ag.frozen;have aG:=ag.lt;clear ag bj;have aH:=hd (jL (b:=tb) (i:=3) (u:=.int .i64 c0) (.inl (by simp)) (jF [tb] wp));have bX:=hd (ap.o.cnt c0);have b7:=hd (bi.o.one aH.o (.inl rfl));go_upto_region 15 with fail
     have am:sb∉[tb]:=fun hm=>ap.o.far ak.o.1 (by decide) (by decide) (by rw[jA.1 hm];simp)
     have an:sb+1∉[tb]:=fun hm=>ap.o.far ak.o.2 (by decide) (by decide) (by rw[jA.1 hm];simp)
     have bY:=hd (And.intro (ak.o.1.ext aH.o am) (ak.o.2.ext aH.o an));generalize World.setCell wp _ _=wc at *;clear qg bV qt bW aG am an;have af:=hd (b7.o.blk ab.o aj.o (by decide) (by decide));have q1:=af.o.cell;have ql:=af.o.lt;have ce:=HP.o.ub p (by omega);go_wp2_with fail
     clear q1 ql;go_loopw [16] (fun y wr=>∃(j:Nat) (V4:Option Nat),y=.int .i64 (V j)/\j<=mn/\Hd (Ge tb mb V0 w1 V4 wr)/\Hd (Blk wr sb 43 arrT/\Blk wr (sb+1) 4 #[.bool false,.bool true])/\Hd (Dq tb mb B keep names vs (U+2*km+PU p+j) (D0 ++ kL keep (PD p ++ PW x j)) (many0+(PM p+PJ x j)) (c0+j) V4 wr)) (fun y _=>(200000-intOf y).toNat)
     case atStart=>exact⟨0,V3,rfl,jQ _,b7,bY,hd (by rw[HP.o.t0,HP.o.j0,List.append_nil];exact bX.o)⟩
     case round=>
      obtain⟨j,V4,rfl,hj,aR,aq,au⟩:=hrel;rename World=>wj
      have af:=hd (aR.o.blk ab.o aj.o (by decide) (by decide));have q1:=af.o.cell;have ql:=af.o.lt;by_cases ad:j<mn
      ·have e1:V j<h.hi:=(aS.o j).2 ad;have b8:=bt.o j ad;have cf:=br.o j;have bZ:=hd b8;unfold Bdd at b8
       go_upto_region 19 with(
        refine Mu rfl _ _ _ rfl mb (U+2*km+PU p+j) names vs h.var (V j) rfl au.o.map rfl rfl aX.o bD.o HZ.o bZ.o (by omega) ?_
        intro w9 hm9 hE9;have aI:=hd (au.o.put hE9 hm9);have aJ:Hd (Ge tb mb V0 w1 V4 w9):=hd (aR.o.one hE9 (.inr (.inl rfl)));have aK:=hd (And.intro (aq.o.1.ext hE9 fun hm=>au.o.far aq.o.1 (by decide) (by decide) (by rw[jA.1 hm];simp)) (aq.o.2.ext hE9 fun hm=>au.o.far aq.o.2 (by decide) (by decide) (by rw[jA.1 hm];simp)));clear hm9 hE9 q1 ql)
       simp only[PT]
       go_wp2_with (first
        | refine Ac rfl 43 _ rfl sb 0 rfl arrT aK.o.1.wide _ underlying43 rfl ah.o ?_
        | (refine Eo rfl 229 _ rfl arrP ?cc ?_;case cc=>refine Eq.trans (congrArg (prog.built 229) (?_:_=[(0,Value.agg arrT),(1,Value.int .i64 ((no:Int)+k)),(2,Value.slice NA nn nc)])) b1.o;simp[Act.eval]))
       refine(a8.o x j ad p ax.o _ V4 w9 aI.o (aJ.o.stay ab.o aZ.o htb hmb) (aJ.o.nam ab.o bK.o)).mono ?_
       rintro e cj ⟨rfl,V5,az,bk⟩;have ao:=hd (aJ.o.trans az);have aL:=hd bk;have aM:=hd (And.intro (az.blk aI.o aK.o.1 (by decide) (by decide)) (az.blk aI.o aK.o.2 (by decide) (by decide)));have af:=hd (ao.o.blk ab.o aj.o (by decide) (by decide));clear az bk;have q1:=af.o.cell;have ql:=af.o.lt;go_wp2_with fail
       go_roundw
       case rel=>
        refine⟨j+1,V5,rfl,by omega,ao,aM,hd ?_⟩
        have h1:=(aL.o.pop aX.o).more (U':=U+2*km+PU p+(j+1)) (by omega);rw[aD.o,aE.o,<-jP,Nm keep (PD p ++ PW x j),<-jP,<-Nat.add_assoc (PM p),<-Nat.add_assoc many0];exact h1
       case measure=>simp[intOf];omega
      ·have c1:j=mn:=by omega
       subst c1;have e0:¬V j<h.hi:=fun hh=>ad ((aS.o j).1 hh)
       have e1:decide (V j<h.hi)=false:=by simpa using e0
       clear e0;go_wp2_with fail
       go_roundw
       case rel=>
        refine⟨p+1,V4,by go_num,by omega,aR,aq,hd ?_⟩
        rw[HP.o.ds p x ax.o,HP.o.ms p x ax.o,HP.o.us,HP.o.cs,<-Nat.add_assoc];exact au.o
       case measure=>simp[intOf];omega
    ·have hp2':p=2:=by omega
     subst hp2';go_wp2_with fail
     go_roundw
     case rel=>
      refine⟨k+1,V3,by go_num,by omega,bi,hd ?_⟩
      have hu:PU 1=PU 0+mn:=HP.o.us 0;have cg:PU 2=PU 1+mn:=HP.o.us 1;have ch:=HP.o.u0;have h1:=ap.o.more (U':=U+2*(km+mn)) (by omega);rw[bQ.o,bM.o,bN.o,Nm,<-jP,hD,<-Nat.add_assoc,hM,<-Nat.add_assoc,hC];have h2:PC 2=mn:=HP.o.cs 1;rw[h2] at h1;exact h1
     case measure=>simp[intOf];omega
  ·have c2:k=bn:=by omega
   subst c2;have HT:Hd (b.take k=b):=hd (List.take_of_length_le (by have:=aY.o;omega));rw[HT.o] at ay;go_wp2_with fail
   refine bodyPost_end (results_none rfl _ _ _) rfl ⟨rfl,V2,⟨fun g hg=>(HE.o.1 g hg).imp id fun h1=>by omega,aw.o.nil.trans HE.o.2⟩,?_⟩
   rw[bC.o];exact ay.o.more bB.o
end
end Go.Proofs.YtfppibmloloakaaGreatDoor
