import Derived.Test.YtfjdmoppfbddpaaGreatDoorP28
import Derived.Test.YtfjdmoppfbddpaaGreatDoorP43
namespace Go.Proofs.YtfjdmoppfbddpaaGreatDoor
open Go.RowKit Go.Proofs.Tryz
set_option linter.all false
section
def vsE (env:Env):List Int:=env.map Prod.snd
theorem vsE_zip {names:List ByteArray}{vs:List Int}(hl:vs.length=names.length):vsE (names.zip vs)=vs:=by
 unfold vsE;rw[List.map_snd_zip (by omega)]
theorem vsE_in (env:Env)(h:SH)(k:Nat):vsE (envS env h k)=vsE env ++ [valS h k]:=by unfold vsE envS;rw[List.map_append];rfl
def rqI (env:Env)(no:Nat)(h:SH)(c:Nat):List RtD:=(tchI env h c).map (rtOf no (vsE env))
def rqW (env:Env)(no:Nat)(h:SH)(c:Nat):List RtD:=[rtOf no (vsE env) (tchW env h c)]
def rqV (env:Env)(h:SH)(no c:Nat):List St->List RtD
 | []=>[]
 | s :: r=>(catN (manyS h) fun j=>rqI (envS env h j) no s.h (c+j)) ++ (catN (manyS h) fun j=>rqW (envS env h j) no s.h (c+j)) ++ rqV env h (no+1) (c+manyS h) r
mutual
def rqS (env:Env)(no c:Nat):St->List RtD
 | .mk h b=>if h.k=3 then rqI env no h c ++ rqW env no h c else if h.k=2 then(if holdsS env h then rqL env no c b else [])
   else if h.vec then rqV env h no c b else((List.range (manyS h)).map fun k=>rqL (envS env h k) no (c+(catN k fun j=>instL (envS env h j) no b).length) b).flatten
def rqL (env:Env)(no c:Nat):List St->List RtD
 | []=>[]
 | s :: r=>rqS env no c s ++ rqL env (no+storesS s) (c+(instS env no s).length) r
end
theorem rqS_store {env:Env}{no c:Nat}{h:SH}{b:List St}(hk:h.k=3):rqS env no c (.mk h b)=rqI env no h c ++ rqW env no h c:=by rw[rqS,if_pos hk]
theorem rqS_when {env:Env}{no c:Nat}{h:SH}{b:List St}(hk:h.k=2):rqS env no c (.mk h b)=if holdsS env h then rqL env no c b else []:=by rw[rqS,if_neg (by omega),if_pos hk]
theorem rqS_vec {env:Env}{no c:Nat}{h:SH}{b:List St}(hk:h.k=1)(hv:h.vec=true):rqS env no c (.mk h b)=rqV env h no c b:=by rw[rqS,if_neg (by omega),if_neg (by omega),if_pos hv]
theorem rqS_for {env:Env}{no c:Nat}{h:SH}{b:List St}(hk:h.k=1)(hv:h.vec=false):rqS env no c (.mk h b)=catN (manyS h) fun k=>rqL (envS env h k) no (c+(catN k fun j=>instL (envS env h j) no b).length) b:=by
 rw[rqS,if_neg (by omega),if_neg (by omega),if_neg (by simp[hv])];rfl
theorem rqV_append (env:Env)(h:SH)(b:List St):∀(a:List St) (no c:Nat),rqV env h no c (a ++ b)=rqV env h no c a ++ rqV env h (no+a.length) (c+a.length*manyS h) b
 | [],no,c=>by simp[rqV]
 | s :: a,no,c=>by
  simp only[List.cons_append,rqV,rqV_append env h b a,List.append_assoc,List.length_cons];congr 4
  ·omega
  ·rw[Nat.add_mul];omega
theorem rqV_take {env:Env}{h:SH}{no c:Nat}{l:List St}{j:Nat}{s:St}(hj:l[j]? = some s):rqV env h no c (l.take (j+1))=rqV env h no c (l.take j) ++ ((catN (manyS h) fun i=>rqI (envS env h i) (no+j) s.h (c+j*manyS h+i)) ++ (catN (manyS h) fun i=>rqW (envS env h i) (no+j) s.h (c+j*manyS h+i))):=by
 have h1:=(List.getElem?_eq_some_iff.1 hj).1;rw[List.take_add_one,hj,rqV_append,List.length_take,Nat.min_eq_left (by omega)];simp[rqV]
theorem rqL_append (env:Env)(b:List St):∀(a:List St) (no c:Nat),rqL env no c (a ++ b)=rqL env no c a ++ rqL env (no+storesL a) (c+(instL env no a).length) b
 | [],no,c=>by simp[rqL,storesL,instL]
 | s :: a,no,c=>by simp only[List.cons_append,rqL,storesL,instL,rqL_append env b a,List.append_assoc,List.length_append,Nat.add_assoc]
theorem rqL_take {env:Env}{no c:Nat}{l:List St}{j:Nat}{s:St}(h:l[j]? = some s):rqL env no c (l.take (j+1))=rqL env no c (l.take j) ++ rqS env (no+storesL (l.take j)) (c+(instL env no (l.take j)).length) s:=by
 rw[List.take_add_one,h,rqL_append];simp[rqL]
theorem rqI_len (env:Env)(no:Nat)(h:SH)(c:Nat):(rqI env no h c).length=rdE h.val:=by simp[rqI,tchI,rdT_len]
theorem rqW_len (env:Env)(no:Nat)(h:SH)(c:Nat):(rqW env no h c).length=1:=rfl
theorem catN_len {α:Type}{f:Nat->List α}{k:Nat}(hf:∀j,(f j).length=k):∀n,(catN n f).length=n*k
 | 0=>by simp[catN_zero]
 | n+1=>by rw[catN_succ,List.length_append,catN_len hf n,hf,Nat.add_mul,Nat.one_mul]
theorem rqV_len (env:Env)(h:SH):∀(b:List St) (no c:Nat),(rqV env h no c b).length=sumI (vecI env h no b)
 | [],no,c=>by simp[rqV,vecI,sumI]
 | s :: b,no,c=>by
  have h1:vecI env h no (s :: b)=rowI env h no s (manyS h) ++ vecI env h (no+1) b:=rfl;rw[h1,sumI_append,sumI_row,<-rqV_len env h b (no+1) (c+manyS h)];simp only[rqV,List.length_append];rw[catN_len (fun j=>rqI_len (envS env h j) no s.h (c+j)),catN_len (fun j=>rqW_len (envS env h j) no s.h (c+j))];simp only[Nat.mul_add,Nat.mul_one]
theorem rqL_len_of {env:Env}(l:List St)(ih:∀s∈l,∀no c,(rqS env no c s).length=sumI (instS env no s)):∀no c,(rqL env no c l).length=sumI (instL env no l):=by
 induction l with
 | nil=>intro no c;simp[rqL,instL,sumI]
 | cons s r ihr=>
  intro no c;simp only[rqL,instL,List.length_append,sumI_append,ih s (List.mem_cons_self ..),ihr fun s hs=>ih s (List.mem_cons_of_mem _ hs)]
theorem rqS_len:∀(s:St) (env:Env) (no c:Nat),(rqS env no c s).length=sumI (instS env no s):=by
 refine st_ind fun h b ih=>?_
 intro env no c;have hl:∀env no c,(rqL env no c b).length=sumI (instL env no b):=fun env=>rqL_len_of b fun s hs no c=>ih s hs env no c
 rw[rqS,instS];split
 ·simp[rqI_len,rqW_len,sumI]
 split
 ·split
  ·exact hl ..
  ·simp[sumI]
 split
 ·exact rqV_len ..
 ·have key:∀m,(catN m fun k=>rqL (envS env h k) no (c+(catN k fun j=>instL (envS env h j) no b).length) b).length=sumI (catN m fun k=>instL (envS env h k) no b):=by
   intro m
   induction m with
   | zero=>simp[catN_zero,sumI]
   | succ m ihm=>rw[catN_succ,catN_succ,List.length_append,sumI_append,ihm,hl]
  exact key _
theorem rqL_len (env:Env)(no c:Nat)(l:List St):(rqL env no c l).length=sumI (instL env no l):=rqL_len_of l (fun s _=>rqS_len s env) no c
theorem kL_append {α:Type}(k:Bool)(a b:List α):kL k (a ++ b)=kL k a ++ kL k b:=by cases k<;>simp[kL]
def Room (keep:Bool)(D:List RtD)(many count:Nat)(I:List Inst):Prop:=(keep=true->D.length+sumI I<=20000)/\many+sumI I<=100000000000000/\count+I.length<=1000000000
theorem Room.pre {keep:Bool}{D:List RtD}{many count:Nat}{a b:List Inst}(h:Room keep D many count (a ++ b)):Room keep D many count a:=by
 obtain⟨h1,h2,h3⟩:=h;rw[sumI_append] at h1 h2;rw[List.length_append] at h3;exact⟨fun hk=>by have:=h1 hk;omega,by omega,by omega⟩
theorem Room.post {keep:Bool}{D X:List RtD}{many count:Nat}{a b:List Inst}(h:Room keep D many count (a ++ b))(hX:X.length=sumI a):Room keep (D ++ kL keep X) (many+sumI a) (count+a.length) b:=by
 obtain⟨h1,h2,h3⟩:=h;rw[sumI_append] at h1 h2;rw[List.length_append] at h3;refine⟨fun hk=>?_,by omega,by omega⟩
 subst hk;have:=h1 rfl;simp only[kL,if_true,List.length_append];omega
def TobQ (tb mb B:Nat)(keep:Bool)(names:List ByteArray)(vs:List Int)(U:Nat)(D:List RtD)(many count:Nat)(V:Option Nat)(w:World):Prop:=mb<B/\∃hi,hi<=w.heap.size/\TouQ tb B hi keep D many count V w/\MpR w mb names vs U
def TobE (tb mb:Nat)(V:Option Nat)(w:World)(V':Option Nat)(w':World):Prop:=LnkV w.heap.size V V'/\Ext (tb :: mb :: V.toList) w w'
section
variable {tb mb B U many count b:Nat} {keep:Bool} {names:List ByteArray} {vs:List Int} {D:List RtD} {V V1 V2:Option Nat} {w0 w w1 w2:World} {t:TypeId} {C:Array Value}
theorem TobE.refl:TobE tb mb V w V w:=⟨LnkV.refl _ _,Ext.refl _ _⟩
theorem TobE.trans (h:TobE tb mb V w V1 w1)(k:TobE tb mb V1 w1 V2 w2):TobE tb mb V w V2 w2:=⟨h.1.trans k.1 h.2.size,h.2.step k.2 fun x hx=>by
 rcases List.mem_cons.1 hx with rfl|hx
 ·left;simp
 ·rcases List.mem_cons.1 hx with rfl|hx
  ·left;simp
  ·rcases h.1 x (Option.mem_toList.1 hx) with h1|h1
   ·left;rw[h1];simp
   ·right;exact h1⟩
theorem TobE.grow (h:TobE tb mb V w V1 w1)(k:Ext [] w1 w2):TobE tb mb V w V1 w2:=⟨h.1,h.2.trans k.nil⟩
theorem TobE.one (h:TobE tb mb V w V1 w1)(k:Ext [b] w1 w2)(hb:b=tb\/b=mb\/w.heap.size<=b):TobE tb mb V w V1 w2:=⟨h.1,h.2.step k fun x hx=>by
 rw[List.mem_singleton.1 hx];rcases hb with rfl|rfl|hb
 ·left;simp
 ·left;simp
 ·right;exact hb⟩
theorem TobQ.grow (h:TobQ tb mb B keep names vs U D many count V w)(k:Ext [] w w1):TobQ tb mb B keep names vs U D many count V w1:=by
 obtain⟨hb,hi,h1,h2,h3⟩:=h;exact⟨hb,hi,Nat.le_trans h1 k.size,h2.ext0 k,h3.ext k List.not_mem_nil⟩
theorem TobQ.far (h:TobQ tb mb B keep names vs U D many count V w)(k:Blk w b t C)(h1:t≠118)(h2:t≠173):b∉tb :: mb :: V.toList:=by
 obtain⟨hb,hi,-,hT,hM⟩:=h;intro hm;rcases List.mem_cons.1 hm with h3|hm
 ·obtain⟨-,-,v,O,-,-,hB,-⟩:=hT;rw[<-h3] at hB;exact h2 (k.type hB)
 ·rcases List.mem_cons.1 hm with h3|hm
  ·exact hM.apart k h3.symm
  ·obtain⟨-,C',hC⟩:=hT.own (Option.mem_toList.1 hm);exact h1 (k.type hC)
theorem TobE.blk (hE:TobE tb mb V w V1 w1)(h:TobQ tb mb B keep names vs U D many count V w)(k:Blk w b t C)(h1:t≠118)(h2:t≠173):Blk w1 b t C:=k.ext hE.2 (h.far k h1 h2)
theorem TobQ.more {U':Nat}(h:TobQ tb mb B keep names vs U D many count V w)(hU:U<=U'):TobQ tb mb B keep names vs U' D many count V w:=by
 obtain⟨hb,hi,h1,h2,h3⟩:=h;exact⟨hb,hi,h1,h2,h3.more hU⟩
theorem TobQ.pop {nm:ByteArray}{x:Int}(h:TobQ tb mb B keep (names ++ [nm]) (vs ++ [x]) U D many count V w)(hl:vs.length=names.length):TobQ tb mb B keep names vs U D many count V w:=by
 obtain⟨hb,hi,h1,h2,h3⟩:=h;exact⟨hb,hi,h1,h2,h3.pop hl⟩
theorem TobQ.map (h:TobQ tb mb B keep names vs U D many count V w):MpR w mb names vs U:=by
 obtain⟨hb,hi,h1,h2,h3⟩:=h;exact h3
theorem TobQ.put {names':List ByteArray}{vs':List Int}{U':Nat}(h:TobQ tb mb B keep names vs U D many count V w)(hE:Ext [mb] w w1)(hM:MpR w1 mb names' vs' U'):TobQ tb mb B keep names' vs' U' D many count V w1:=by
 obtain⟨hb,hi,h1,h2,h3⟩:=h;refine⟨hb,hi,Nat.le_trans h1 hE.size,h2.ext hE fun x hx=>?_,hM⟩
 rw[List.mem_singleton.1 hx];refine⟨?_,fun hv=>?_,.inl hb⟩
 ·obtain⟨-,-,v,O,-,-,hB,-⟩:=h2;exact h3.apart hB
 ·obtain⟨-,C,hC⟩:=h2.own hv;exact h3.apart hC rfl
theorem TobQ.low (h:TobQ tb mb B keep names vs U D many count V w)(ht:w0.heap.size<=tb)(hm:w0.heap.size<=mb):∀x∈tb :: mb :: V.toList,w0.heap.size<=x:=by
 obtain⟨hb,hi,-,hT,hM⟩:=h;intro x hx;rcases List.mem_cons.1 hx with rfl|hx
 ·exact ht
 ·rcases List.mem_cons.1 hx with rfl|hx
  ·exact hm
  ·have h1:=(hT.own (Option.mem_toList.1 hx)).1;have h2:=hT.1;omega
theorem TobE.stay (hE:TobE tb mb V w V1 w1)(h:TobQ tb mb B keep names vs U D many count V w)(h0:Ext [] w0 w)(ht:w0.heap.size<=tb)(hm:w0.heap.size<=mb):Ext [] w0 w1:=keep0 h0 hE.2 (h.low ht hm)
end
def NamB (w:World)(A:Option Addr)(names:List ByteArray):Prop:=names=[]\/∃(b:Nat) (C:Array Value),A=some ⟨b,0,none⟩/\Blk w b 9 C/\∀(i:Nat) (x:ByteArray),names[i]? = some x->C[i]? = some (.string x)
theorem NamB.ext {w w':World}{A:Option Addr}{names:List ByteArray}(h:NamB w A names){S:List Nat}(hE:Ext S w w')(hS:∀b C,Blk w b 9 C->b∉S):NamB w' A names:=by
 rcases h with h|⟨b,C,h1,h2,h3⟩
 ·exact .inl h
 ·exact .inr ⟨b,C,h1,h2.ext hE (hS b C h2),h3⟩
theorem NamB.seq {w:World}{A:Option Addr}{names:List ByteArray}(h:NamB w A names)(hn:names.length<=1000000):SeqIn w A 1 sC names:=by
 rcases h with h|⟨b,C,h1,h2,h3⟩
 ·subst h;exact seq_nil _ _ _ _
 ·refine⟨hn,.inr ⟨b,h1,fun i x hx j v hv=>?_⟩⟩
  have hj:j=0:=by
   have:=(List.getElem?_eq_some_iff.1 hv).1;simp[sC] at this;omega
  subst hj;cases hv
  rw[h2.cell,Nat.mul_one,Nat.add_zero];exact h3 i x hx
theorem TobE.nam {tb mb B U many count:Nat}{keep:Bool}{names:List ByteArray}{vs:List Int}{D:List RtD}{V V1:Option Nat}{w w1:World}{A:Option Addr}{l:List ByteArray}(hE:TobE tb mb V w V1 w1)(h:TobQ tb mb B keep names vs U D many count V w)(k:NamB w A l):NamB w1 A l:=k.ext hE.2 fun b C hC=>h.far hC (by decide) (by decide)
theorem DisN.snoc {names:List ByteArray}{nm:ByteArray}(h:DisN names)(hn:hasS names nm=false):DisN (names ++ [nm]):=by
 have hno:∀(i:Nat) (x:ByteArray),names[i]? = some x->eqS x nm=false:=fun i x hx=>by
  have h1:=List.any_eq_false.1 hn x (List.mem_of_getElem? hx);rw[eqS_comm];simpa using h1
 intro i j x y hi hj he;rw[List.getElem?_append] at hi hj;split at hi<;>split at hj
 ·exact h i j x y hi hj he
 ·rename_i h1 h2
  have hy:y=nm:=by
   have:=List.mem_of_getElem? hj;simpa using this
  subst hy;rw[hno i x hi] at he;cases he
 ·rename_i h1 h2
  have hx:x=nm:=by
   have:=List.mem_of_getElem? hi;simpa using this
  subst hx;rw[eqS_comm,hno j y hj] at he;cases he
 ·rename_i h1 h2
  have h3:=(List.getElem?_eq_some_iff.1 hi).1;have h4:=(List.getElem?_eq_some_iff.1 hj).1;simp only[List.length_singleton] at h3 h4;omega
structure NmG (names:List ByteArray)(vs:List Int):Prop where
 len:vs.length=names.length
 eight:names.length<=8
 bdd:∀v∈vs,Bdd v
 size:∀x∈names,ByteArray.size x<=8
 dis:DisN names
theorem NmG.inner {names:List ByteArray}{vs:List Int}(h:NmG names vs){nm:ByteArray}{x:Int}(h8:names.length<8)(hn:hasS names nm=false)(hs:nm.size<=8)(hx:Bdd x):NmG (names ++ [nm]) (vs ++ [x]):=
 ⟨by simp[h.len],by simp;omega,fun v hv=>by rcases List.mem_append.1 hv with hv|hv;exact h.bdd v hv;rw[List.mem_singleton.1 hv];exact hx,
  fun v hv=>by rcases List.mem_append.1 hv with hv|hv;exact h.size v hv;rw[List.mem_singleton.1 hv];exact hs,h.dis.snoc hn⟩
theorem NmG.nil:NmG [] []:=⟨rfl,by simp,by simp,by simp,fun i j x y hi=>by simp at hi⟩
section
variable {ops:Array Oper} {rest:List Oper} {o:Oper} {a:Act} {w:World} {Q:Exit->Act->World->Prop}
theorem wpList_mpr_put (hg:o.guard=none)(m x v:Operand)(hop:o.op=Op.mapUpdate 92 m x v)(b U:Nat)(names:List ByteArray)(vs:List Int)(nm:ByteArray)(y:Int)(hm:a.eval m=.map (some b))(h:MpR w b names vs U)(hx:a.eval x=.string nm)(hv:a.eval v=.int .i64 y)
  (hl:vs.length=names.length) (hno:hasS names nm=false) (hs:nm.size<=1000000) (hy:Bdd y) (hU:U<=100000000)
  (hK:∀w',MpR w' b (names ++ [nm]) (vs ++ [y]) (U+1)->Ext [b] w w'->wpList Tryz.prog ops Q rest (a.put o.dst undef) w'):wpList Tryz.prog ops Q (o :: rest) a w:=by
 refine wpList_plain hg fun K' hK'=>?_
 obtain⟨w',hrun,r1,r2⟩:=h.put hl nm y hno hs hy hU;unfold Oper.wp;simp[execOp,hop,hm,hx,hv,hrun,Result.andThen];exact hK' _ _ (hK w' r1 r2)
end
theorem catN_pre {α:Type}{f:Nat->List α}{j:Nat}:∀{n:Nat},j<=n->∃r,catN n f=catN j f ++ r
 | 0,h=>⟨[],by
          have:j=0:=by omega
          subst this;simp⟩
 | n+1,h=>by
  by_cases hj:j=n+1
  ·subst hj;exact⟨[],by simp⟩
  ·obtain⟨r,hr⟩:=catN_pre (f:=f) (j:=j) (n:=n) (by omega);exact⟨r ++ f n,by rw[catN_succ,hr,List.append_assoc]⟩
def TobP (tb mb B:Nat)(keep:Bool)(names:List ByteArray)(vs:List Int)(U:Nat)(D:List RtD)(many count:Nat)(V:Option Nat)(I:List Inst)(X:List RtD)(w:World)(e:Ending)(w':World):Prop:=
 e=.returned (.tuple #[])/\∃V',TobE tb mb V w V' w'/\TobQ tb mb B keep names vs U (D ++ kL keep X) (many+sumI I) (count+I.length) V' w'
def TbC (l:List St):Prop:=∀(tb mb B nb no count U many:Nat) (keep:Bool) (NA:Option Addr) (nc:Nat) (names:List ByteArray) (vs:List Int) (w0 w:World) (A:Option Addr) (cap:Nat) (D:List RtD) (V:Option Nat),
 NmG names vs->w0.heap.size<=tb->w0.heap.size<=mb->TobQ tb mb B keep names vs U D many count V w->SeqIn w0 A 21 stC l->(∀s∈l,StIn w0 s)->(∀s∈l,Fd nb names s)->Ext [] w0 w->NamB w NA names->VzP NA names.length nc->no+storesL l<=3000->U+2*runNL (names.zip vs) l<=100000000->Room keep D many count (instL (names.zip vs) no l)->
  Calls Tryz.prog 103 #[.pointer (some ⟨tb,0,none⟩),.slice A l.length cap,.int .i64 no,.slice NA names.length nc,.map (some mb)] w
   (TobP tb mb B keep names vs (U+2*runNL (names.zip vs) l) D many count V (instL (names.zip vs) no l) (rqL (names.zip vs) no count l) w)
theorem rinst_tob (tb mb B nb no count U many nc:Nat)(keep rd wr:Bool)(NA:Option Addr)(names:List ByteArray)(vs:List Int)(h:SH)(w0:World)(D:List RtD)(V:Option Nat)(w:World)(hG:NmG names vs)(hw0:w0.heap.size<=tb)
  (hT:TobQ tb mb B keep names vs U D many count V w) (hX:StIn w0 (.mk h [])) (hF:Fd nb names (.mk h [])) (hk3:h.k=3) (hE0:Ext [] w0 w) (hN:NamB w NA names) (hk9:keep=true->D.length+rdE h.val+1<=50000) (hm9:many+rdE h.val+1<=1000000000000000) (hc9:count<=1000000000) :
  Calls Tryz.prog 148 #[.pointer (some ⟨tb,0,none⟩),.agg (plA h no NA names.length nc),.map (some mb),.bool rd,.bool wr] w fun e w'=>e=.returned (.tuple #[])/\∃V',TobE tb mb V w V' w'/\
   TobQ tb mb B keep names vs U (D ++ kL keep (kL rd (rqI (names.zip vs) no h count) ++ kL wr (rqW (names.zip vs) no h count))) (many+(kN rd (rdE h.val)+kN wr 1)) (count+1) V' w':=by
 obtain⟨hb,hi,h1,h2,h3⟩:=hT
 obtain⟨ha,hx,hf⟩:affE names h.at_=0/\exprE names nb h.val=0/\fits 0 1 h.val=true:=by
  cases hF with
  | loop _ _ _ hk=>omega
  | when _ _ _ hk=>omega
  | store _ _ _ _ _ h1 h2 h3=>exact⟨h1,h2,h3⟩
 have hall:=hX.all;have hfit:=(fits_iff.1 hf).1;refine(rinst_any tb B hi mb nb no count U many nc keep rd wr NA names vs h w0 D V w hG.len (by have h1:=hG.len;have h2:=hG.eight;omega) hG.bdd hG.size hG.dis hw0 h2 h1 hall.2.2.1 hall.2.2.2.1 hE0 ha hx (by omega) h3 (hN.seq (by have:=hG.eight;omega)) hk9 hm9 hc9).mono ?_
 rintro e w' ⟨V',hi',rfl,hL,hE,hh,hh2,hT'⟩;refine⟨rfl,V',⟨hL,hE.mono fun x hx=>?_⟩,hb,hi',hh2,?_,h3.ext hE fun hm=>?_⟩
 ·left
  rcases List.mem_cons.1 hx with rfl|hx
  ·simp
  ·exact List.mem_cons_of_mem _ (List.mem_cons_of_mem _ hx)
 ·unfold rqI rqW;rw[vsE_zip hG.len];exact hT'
 ·rcases List.mem_cons.1 hm with h4|hm
  ·obtain⟨-,-,v,O,-,-,hB,-⟩:=h2;exact h3.apart hB h4
  ·obtain⟨-,C,hC⟩:=h2.own (Option.mem_toList.1 hm);exact h3.apart hC rfl
end
set_option maxHeartbeats 16000000 in
set_option maxRecDepth 100000 in
theorem rfor_any (tb mb B nb no count U many:Nat)(keep:Bool)(NA:Option Addr)(nc:Nat)(names:List ByteArray)(vs:List Int)(w0 w:World)(h:SH)(b:List St)(D:List RtD)(V0:Option Nat)
  (hG:NmG names vs) (htb:w0.heap.size<=tb) (hmb:w0.heap.size<=mb) (hQ:TobQ tb mb B keep names vs U D many count V0 w) (hX:StIn w0 (.mk h b)) (hF:Fd nb names (.mk h b)) (hk:h.k=1) (hv:h.vec=false) (hE0:Ext [] w0 w) (hN:NamB w NA (names ++ [h.var])) (hz:VzP NA (names ++ [h.var]).length nc)
  (hno:no+storesL b<=3000) (hU:U+2*runN (names.zip vs) (.mk h b)<=100000000) (hR:Room keep D many count (instS (names.zip vs) no (.mk h b))) (ih:TbC b) :
  Calls Tryz.prog 150 #[.pointer (some ⟨tb,0,none⟩),stHV h b.length,.int .i64 no,.slice NA (names ++ [h.var]).length nc,.map (some mb)] w
   (TobP tb mb B keep names vs (U+2*runN (names.zip vs) (.mk h b)) D many count V0 (instS (names.zip vs) no (.mk h b)) (rqS (names.zip vs) no count (.mk h b)) w):=by
 obtain⟨hnm,hnv,hl8,hlo,hhi,hst,hFs⟩:nameB h.var=true/\hasS names h.var=false/\names.length<8/\(-100000<=h.lo/\h.lo<=100000)/\(-100000<=h.hi/\h.hi<=100000)/\(1<=h.step/\h.step<=100000)/\∀s∈b,Fd nb (names ++ [h.var]) s:=by
  cases hF with
  | loop _ _ _ _ h1 h2 h3 h4 h5 h6 h7 h8=>exact⟨h1,h2,h3,h4,h5,h6,h8⟩
  | when _ _ _ hk'=>omega
  | store _ _ hk'=>omega
 have hall:=hX.all;have HBR:=hd hall.2.2.2.2.2.2.1;have HST:=hd hall.2.2.2.2.2.2.2;have HZ:=hd hall.2.2.2.2.2.1;have HVL:=hd (fun k=>@valS_lt h k hst.1);have HVS:=hd (fun k=>valS_succ h k);have HVB:=hd (fun j hj=>valS_bdd (h:=h) (k:=j) hlo hhi hst hj);have hs8:h.var.size<=8:=((nameB_iff h.var).1 hnm).1.2;have HGI:=hd (fun j (hj:j<manyS h)=>hG.inner hl8 hnv hs8 (valS_bdd hlo hhi hst hj));have hv0:valS h 0=h.lo:=by simp[valS]
 have HES:=hd (fun j=>show envS (names.zip vs) h j=(names ++ [h.var]).zip (vs ++ [valS h j]) from(zip_snoc hG.len _ _).symm);have HIS:=hd (instS_for (env:=names.zip vs) (no:=no) (b:=b) hk hv);have HQS:=hd (rqS_for (env:=names.zip vs) (no:=no) (c:=count) (b:=b) hk hv);have HRS:=hd (runN_for (env:=names.zip vs) (b:=b) hk hv);obtain⟨IN,hIN⟩:∃IN:Nat->List Inst,∀j,IN j=instL (envS (names.zip vs) h j) no b:=⟨_,fun _=>rfl⟩;obtain⟨CN,hCN⟩:∃CN:Nat->List Inst,∀j,CN j=catN j fun k=>instL (envS (names.zip vs) h k) no b:=⟨_,fun _=>rfl⟩
 obtain⟨QN,hQN⟩:∃QN:Nat->List RtD,∀j,QN j=rqL (envS (names.zip vs) h j) no (count+(CN j).length) b:=⟨_,fun _=>rfl⟩;obtain⟨XN,hXN⟩:∃XN:Nat->List RtD,∀j,XN j=catN j fun k=>rqL (envS (names.zip vs) h k) no (count+(catN k fun j=>instL (envS (names.zip vs) h j) no b).length) b:=⟨_,fun _=>rfl⟩
 obtain⟨RN,hRN⟩:∃RN:Nat->Nat,∀j,RN j=runNL (envS (names.zip vs) h j) b:=⟨_,fun _=>rfl⟩;obtain⟨SN,hSN⟩:∃SN:Nat->Nat,∀j,SN j=sumN j fun k=>1+runNL (envS (names.zip vs) h k) b:=⟨_,fun _=>rfl⟩
 have hSP:=sumN_plus (manyS h) fun k=>runNL (envS (names.zip vs) h k) b
 have HSS:Hd (∀j,SN (j+1)=SN j+(1+RN j)):=hd fun j=>by rw[hSN,hSN,hRN];exact sumN_succ j _
 have HSM:Hd (∀j,j<=manyS h->SN j<=SN (manyS h)):=hd fun j hj=>by rw[hSN,hSN];exact sumN_mono _ hj
 have HCS:Hd (∀j,CN (j+1)=CN j ++ IN j):=hd fun j=>by rw[hCN,hCN,hIN];exact catN_succ j _
 have HXS:Hd (∀j,XN (j+1)=XN j ++ QN j):=hd fun j=>by rw[hXN,hXN,hQN,hCN];exact catN_succ j _
 have HQL:Hd (∀j,(QN j).length=sumI (IN j)):=hd fun j=>by rw[hQN,hIN];exact rqL_len ..
 have HXL:Hd (∀j,(XN j).length=sumI (CN j)):=hd fun j=>by
  induction j with
  | zero=>rw[hXN,hCN];rfl
  | succ j ih=>rw[HXS.o,HCS.o,List.length_append,sumI_append,ih,HQL.o]
 have HRM:Hd (∀j,j<manyS h->Room keep (D ++ kL keep (XN j)) (many+sumI (CN j)) (count+(CN j).length) (IN j)):=hd fun j hj=>by
  rw[HIS.o,<-hCN] at hR;obtain⟨r,hr⟩:∃r,CN (manyS h)=CN (j+1) ++ r:=by rw[hCN,hCN];exact catN_pre (by omega)
  rw[hr,HCS.o,List.append_assoc] at hR;exact(hR.post (HXL.o j)).pre
 have HS00:Hd (SN 0=0):=hd (by rw[hSN];rfl);have HC00:Hd (CN 0=[]):=hd (by rw[hCN];rfl);have HX00:Hd (XN 0=[]):=hd (by rw[hXN];rfl);have hU0:U+2*(1+SN (manyS h))<=100000000:=by rw[HRS.o,<-hSP,<-hSN] at hU;exact hU
 have HIH:=hd (fun W j (hj:j<manyS h) V' (hq:TobQ tb mb B keep (names ++ [h.var]) (vs ++ [valS h j]) (U+2*SN j+1) (D ++ kL keep (XN j)) (many+sumI (CN j)) (count+(CN j).length) V' W) (hE':Ext [] w0 W) (hN':NamB W NA (names ++ [h.var]))=>
  ih tb mb B nb no (count+(CN j).length) (U+2*SN j+1) (many+sumI (CN j)) keep NA nc (names ++ [h.var]) (vs ++ [valS h j]) w0 W h.A h.cap (D ++ kL keep (XN j)) V' (HGI.o j hj) htb hmb hq HBR.o HST.o hFs hE' hN' hz hno (by
   have h1:=HSS.o j;have h2:=HSM.o (j+1) (by omega);rw[<-HES.o,<-hRN];omega) (by rw[<-HES.o,<-hIN];exact HRM.o j hj))
 simp only[<-HES.o,<-hRN,<-hIN,<-hQN] at HIH;rw[HIS.o,HQS.o,HRS.o,<-hSP,<-hSN,<-hCN,<-hXN];have HLN:=hd hG.len;have HNV:=hd hnv;have HQ:=hd hQ;have HE0:=hd hE0;have HN:=hd hN;clear hQ hX hF hk hE0 hN hz hU hR hSP hIN hCN hQN hXN hRN hSN hall hnm hnv hFs hG HIS HQS HRS;unfold stHV;obtain⟨a0,a1,a2,a3,a4,a5,a6,a7,-⟩:=stArr_get h b.length h.val.h h.val.ks.length;have HB0:=hd (Blk.new w 43 (stArr h b.length h.val.h h.val.ks.length));have HEx:=hd ((Ext.refl [] w).alloc (.cells (stArr h b.length h.val.h h.val.ks.length) 43));rw[<-hv0] at a2;generalize manyS h=mn at *;generalize hvf:valS h=V at *;clear hvf hv0;generalize stArr h b.length h.val.h h.val.ks.length=arr at *;rw[hv] at a5;generalize b.length=bn at *;generalize hnn:(names ++ [h.var]).length=nn at *;go_enter Tryz.func150,Tryz.ntmps150
 go_upto_region 1 with fail
 have HQ1:=hd (HQ.o.grow HEx.o);have HN1:=hd (HN.o.ext HEx.o (by simp));have HE1:=hd (HE0.o.trans HEx.o);have hw1:(World.alloc w (.cells arr 43)).heap.size=w.heap.size+1:=alloc_size _ _;generalize World.alloc w _=w1 at *;generalize hs0:w.heap.size=s0 at *;have q1:=HB0.o.cell;have ql:=HB0.o.lt;go_wp2_with fail
 clear q1 ql;go_loopw [10] (fun x wr=>∃(j:Nat) (V2:Option Nat),x=.int .i64 (V j)/\j<=mn/\Hd (TobE tb mb V0 w1 V2 wr)/\Hd (TobQ tb mb B keep names vs (U+2*SN j) (D ++ kL keep (XN j)) (many+sumI (CN j)) (count+(CN j).length) V2 wr)) (fun x _=>(200000-intOf x).toNat)
 case atStart=>exact⟨0,V0,rfl,Nat.zero_le _,hd TobE.refl,hd (by rw[HS00.o,HC00.o,HX00.o];simpa[kL,sumI] using HQ1.o)⟩
 case round=>
  obtain⟨j,V2,rfl,hj,HE,HQj⟩:=hrel;rename World=>wq
  have HBq:=hd (HE.o.blk HQ1.o HB0.o (by decide) (by decide));have q1:=HBq.o.cell;have ql:=HBq.o.lt;by_cases hlt:j<mn
  ·have e1:V j<h.hi:=(HVL.o j).2 hlt;have hvb:=HVB.o j hlt;have hvs:=HVS.o j;have hsm:=HSM.o (j+1) (by omega);have hss:=HSS.o j;have HVb:=hd hvb;unfold Bdd at hvb
   go_upto_region 6 with(
    refine wpList_mpr_put rfl _ _ _ rfl mb (U+2*SN j) names vs h.var (V j) rfl HQj.o.map rfl rfl HLN.o HNV.o HZ.o HVb.o (by omega) ?_
    intro w9 hm9 hE9;have HQ9:=hd (HQj.o.put hE9 hm9);have HE9:Hd (TobE tb mb V0 w1 (V2) w9):=hd (HE.o.one hE9 (.inr (.inl rfl)));clear hm9 hE9 q1 ql)
   simp only[Act.put,List.setIfInBounds_toArray,List.set_cons_succ,List.set_cons_zero];have HB9:=hd (HE9.o.blk HQ1.o HB0.o (by decide) (by decide));have q1:=HB9.o.cell;have ql:=HB9.o.lt;go_wp2_with fail
   refine(HIH.o w9 j hlt V2 HQ9.o (HE9.o.stay HQ1.o HE1.o htb hmb) (HE9.o.nam HQ1.o HN1.o)).mono ?_
   rintro e w11 ⟨rfl,V3,hE3,hQ3⟩;have HE11:=hd (HE9.o.trans hE3);have HQ11:=hd hQ3;have HB11:=hd (HE11.o.blk HQ1.o HB0.o (by decide) (by decide));clear hE3 hQ3 q1 ql;have q1:=HB11.o.cell;have ql:=HB11.o.lt;go_wp2_with fail
   go_roundw
   case rel=>
    refine⟨j+1,V3,rfl,by omega,HE11,hd ?_⟩
    have h1:=(HQ11.o.pop HLN.o).more (U':=U+2*SN (j+1)) (by omega);rw[HXS.o,HCS.o,kL_append,sumI_append,List.length_append,<-List.append_assoc,<-Nat.add_assoc,<-Nat.add_assoc];exact h1
   case measure=>simp[intOf];omega
  ·have hjn:j=mn:=by omega
   subst hjn;have e0:¬V j<h.hi:=fun hh=>hlt ((HVL.o j).1 hh)
   have e1:decide (V j<h.hi)=false:=by simpa using e0
   clear e0;go_wp2_with fail
   exact bodyPost_ret (results_none rfl _ _ _) rfl ⟨rfl,V2,⟨fun g hg=>(HE.o.1 g hg).imp id fun h1=>by omega,HEx.o.nil.trans HE.o.2⟩,HQj.o.more (by omega)⟩
section
structure VecQ (env:Env)(h th:SH)(no c0 mn:Nat)(keep:Bool)(D0:List RtD)(many0:Nat)(PD:Nat->List RtD)(PT:Bool->Nat->List RtD)(PM PC PU:Nat->Nat)(PJ:Bool->Nat->Nat):Prop where
 d0:PD 0=[]
 t0:∀x,PT x 0=[]
 m0:PM 0=0
 j0:∀x,PJ x 0=0
 c0':PC 0=0
 u0:PU 0=0
 ts:∀x j,PT x (j+1)=PT x j ++ (kL (!x) (rqI (envS env h j) no th (c0+j)) ++ kL x (rqW (envS env h j) no th (c0+j)))
 js:∀x j,PJ x (j+1)=PJ x j+(kN (!x) (rdE th.val)+kN x 1)
 ds:∀p x,(p=0/\x=false\/p=1/\x=true)->PD (p+1)=PD p ++ PT x mn
 ms:∀p x,(p=0/\x=false\/p=1/\x=true)->PM (p+1)=PM p+PJ x mn
 us:∀p,PU (p+1)=PU p+mn
 cs:∀p,PC (p+1)=mn
 dd:PD 2=(catN mn fun i=>rqI (envS env h i) no th (c0+i)) ++ (catN mn fun i=>rqW (envS env h i) no th (c0+i))
 mm:PM 2=mn*(rdE th.val+1)
 rm:∀p x j,(p=0/\x=false\/p=1/\x=true)->j<mn->(keep=true->(D0 ++ kL keep (PD p ++ PT x j)).length+rdE th.val+1<=50000)/\many0+(PM p+PJ x j)+rdE th.val+1<=1000000000000000
 ub:∀p,p<=1->PU p+mn<=2*mn
theorem vec_plan (env:Env)(h th:SH)(no c0 mn:Nat)(keep:Bool)(D0:List RtD)(many0:Nat)(hk:keep=true->D0.length+mn*(rdE th.val+1)<=20000)(hm:many0+mn*(rdE th.val+1)<=100000000000000) :
  ∃PD PT PM PC PU PJ,VecQ env h th no c0 mn keep D0 many0 PD PT PM PC PU PJ:=by
 generalize hr:rdE th.val=r at *;let PT:Bool->Nat->List RtD:=fun x j=>catN j fun i=>kL (!x) (rqI (envS env h i) no th (c0+i)) ++ kL x (rqW (envS env h i) no th (c0+i))
 let PD:Nat->List RtD:=fun p=>match p with|0=>[]|1=>PT false mn|_=>PT false mn ++ PT true mn
 let PJ:Bool->Nat->Nat:=fun x j=>j*(kN (!x) r+kN x 1)
 let PM:Nat->Nat:=fun p=>match p with|0=>0|1=>PJ false mn|_=>PJ false mn+PJ true mn
 have hlen:∀x j,(PT x j).length=PJ x j:=fun x j=>by
  refine catN_len (fun i=>?_) j
  cases x
  ·simp[kL,kN,rqI_len,hr]
  ·simp[kL,kN,rqW_len]
 have hf:PJ false mn=mn*r:=by simp[PJ,kN]
 have ht:PJ true mn=mn:=by simp[PJ,kN]
 have hfj:∀j,PJ false j=j*r:=fun j=>by simp[PJ,kN]
 have htj:∀j,PJ true j=j:=fun j=>by simp[PJ,kN]
 refine⟨PD,PT,PM,fun p=>if p=0 then 0 else mn,fun p=>p*mn,PJ,rfl,fun x=>rfl,rfl,fun x=>by simp[PJ],rfl,by simp,fun x j=>catN_succ j _,fun x j=>by rw[hr];simp only[PJ,Nat.add_mul,Nat.one_mul],?_,?_,fun p=>by simp only[Nat.add_mul,Nat.one_mul],fun p=>by simp,?_,?_,?_,?_⟩
 ·rintro p x (⟨rfl,rfl⟩|⟨rfl,rfl⟩)
  ·simp[PD]
  ·rfl
 ·rintro p x (⟨rfl,rfl⟩|⟨rfl,rfl⟩)
  ·simp[PM]
  ·rfl
 ·simp only[PD,PT,kL,Bool.not_false,Bool.not_true,if_true,Bool.false_eq_true,if_false,List.append_nil,List.nil_append]
 ·show PJ false mn+PJ true mn=_
  rw[hf,ht,hr,Nat.mul_add,Nat.mul_one]
 ·rw[Nat.mul_add,Nat.mul_one] at hk hm;have h1:0<mn->r<=mn*r:=fun h=>Nat.le_mul_of_pos_left r h
  rintro p x j (⟨rfl,rfl⟩|⟨rfl,rfl⟩) hj
  ·have h2:j*r+r<=mn*r:=by
    have:=Nat.mul_le_mul_right r (show j+1<=mn by omega);rw[Nat.add_mul,Nat.one_mul] at this;exact this
   refine⟨fun hk2=>?_,?_⟩
   ·subst hk2;have h3:=hk rfl;have h4:=hlen false j;rw[hfj] at h4;simp only[kL,if_true,List.length_append,h4];show D0.length+(([]:List RtD).length+j*r)+rdE th.val+1<=50000
    rw[hr];simp only[List.length_nil];omega
   ·show many0+(0+PJ false j)+rdE th.val+1<=_
    rw[hr,hfj];have:=h1 (by omega);omega
  ·refine⟨fun hk2=>?_,?_⟩
   ·subst hk2;have h3:=hk rfl;have h4:=hlen true j;have h5:=hlen false mn;rw[htj] at h4;rw[hf] at h5;have h6:=h1 (by omega);simp only[kL,if_true,List.length_append,h4];show D0.length+((PT false mn).length+j)+rdE th.val+1<=50000
    rw[hr,h5];omega
   ·show many0+(PJ false mn+PJ true j)+rdE th.val+1<=_
    rw[hr,hf,htj];have:=h1 (by omega);omega
 ·intro p hp;have:p*mn<=1*mn:=Nat.mul_le_mul_right _ hp;show p*mn+mn<=_
  omega
section
variable {ops:Array Oper} {rest:List Oper} {o:Oper} {a:Act} {w:World} {Q:Exit->Act->World->Prop} {P:Program}
theorem wpList_built (hg:o.guard=none)(t:TypeId)(parts:Array (Nat×Operand))(ho:o.op=.build t parts)(cells:Array Value)(hc:P.built t (parts.map fun(i,x)=>(i,a.eval x)).toList=some cells)
  (h:wpList P ops Q rest (a.put o.dst (.agg cells)) w):wpList P ops Q (o :: rest) a w:=
 wpList_op_run hg (.agg cells) w (by unfold execOp;simp only[ho,Sem.run_bind,run_build w t _ cells hc,Result.andThen_ok];rfl) h
end
theorem pl_built (h:SH)(no:Nat)(NA:Option Addr)(n nc:Nat):Tryz.prog.built 238 [(0,.agg (stArr h 0 h.val.h h.val.ks.length)),(1,.int .i64 no),(2,.slice NA n nc)]=some (plA h no NA n nc):=by kernel_rfl
section
variable {tb mb B U many count:Nat} {keep:Bool} {names:List ByteArray} {vs:List Int} {D:List RtD} {V:Option Nat} {w:World}
theorem TobQ.tch (h:TobQ tb mb B keep names vs U D many count V w):∃v,Blk w tb 173 #[v,.int .i64 many,.bool keep,.int .i64 count]:=by
 obtain⟨hb,hi,h1,⟨-,-,v,O,-,-,hB,-⟩,h3⟩:=h;exact⟨v,hB⟩
theorem TobQ.cnt (h:TobQ tb mb B keep names vs U D many count V w)(count':Nat):TobQ tb mb B keep names vs U D many count' V (w.setCell ⟨tb,3,none⟩ (.int .i64 count')):=by
 have ht:=h.tch;obtain⟨hb,hi,h1,h2,h3⟩:=h;have hE:Ext [tb] w (w.setCell ⟨tb,3,none⟩ (.int .i64 count')):=Ext.setAt (.inl (by simp)) (Ext.refl [tb] w);refine⟨hb,hi,Nat.le_trans h1 hE.size,h2.set hE fun v hB=>hB.set_' 3 _ _ (by simp),h3.ext hE ?_⟩
 obtain⟨v,hB⟩:=ht;rw[List.mem_singleton];exact h3.apart hB
end
set_option maxHeartbeats 16000000 in
set_option maxRecDepth 100000 in
theorem rvec_any (tb mb B nb no count U many:Nat)(keep:Bool)(NA:Option Addr)(nc:Nat)(names:List ByteArray)(vs:List Int)(w0 w:World)(h:SH)(b:List St)(D:List RtD)(V0:Option Nat)
  (hG:NmG names vs) (htb:w0.heap.size<=tb) (hmb:w0.heap.size<=mb) (hQ:TobQ tb mb B keep names vs U D many count V0 w) (hX:StIn w0 (.mk h b)) (hF:Fd nb names (.mk h b)) (hk:h.k=1) (hv:h.vec=true) (hE0:Ext [] w0 w) (hN:NamB w NA (names ++ [h.var])) (hz:VzP NA (names ++ [h.var]).length nc)
  (hno:no+storesL b<=3000) (hU:U+2*runN (names.zip vs) (.mk h b)<=100000000) (hR:Room keep D many count (instS (names.zip vs) no (.mk h b))) :
  Calls Tryz.prog 150 #[.pointer (some ⟨tb,0,none⟩),stHV h b.length,.int .i64 no,.slice NA (names ++ [h.var]).length nc,.map (some mb)] w
   (TobP tb mb B keep names vs (U+2*runN (names.zip vs) (.mk h b)) D many count V0 (instS (names.zip vs) no (.mk h b)) (rqS (names.zip vs) no count (.mk h b)) w):=by
 obtain⟨hnm,hnv,hl8,hlo,hhi,hst,hv3,hFs⟩:nameB h.var=true/\hasS names h.var=false/\names.length<8/\(-100000<=h.lo/\h.lo<=100000)/\(-100000<=h.hi/\h.hi<=100000)/\(1<=h.step/\h.step<=100000)/\(∀s∈b,s.h.k=3)/\∀s∈b,Fd nb (names ++ [h.var]) s:=by
  cases hF with
  | loop _ _ _ _ h1 h2 h3 h4 h5 h6 h7 h8=>exact⟨h1,h2,h3,h4,h5,h6,h7 hv,h8⟩
  | when _ _ _ hk'=>omega
  | store _ _ hk'=>omega
 have hall:=hX.all;have HBR:=hd hall.2.2.2.2.2.2.1;have HST:=hd hall.2.2.2.2.2.2.2;have HZ:=hd hall.2.2.2.2.2.1;have HVL:=hd (fun k=>@valS_lt h k hst.1);have HVS:=hd (fun k=>valS_succ h k);have HVB:=hd (fun j hj=>valS_bdd (h:=h) (k:=j) hlo hhi hst hj);have H3:=hd hv3;have HFS:=hd hFs;have hs8:h.var.size<=8:=((nameB_iff h.var).1 hnm).1.2;have HGI:=hd (fun j (hj:j<manyS h)=>hG.inner hl8 hnv hs8 (valS_bdd hlo hhi hst hj));have hv0:valS h 0=h.lo:=by simp[valS]
 have HES:=hd (fun j=>show envS (names.zip vs) h j=(names ++ [h.var]).zip (vs ++ [valS h j]) from(zip_snoc hG.len _ _).symm);have hlb:storesL b=b.length:=stores_all hv3 hFs
 have HRM:Hd (∀k th,b[k]? = some (.mk th [])->(keep=true->(D ++ kL keep (rqV (names.zip vs) h no count (b.take k))).length+manyS h*(rdE th.val+1)<=20000)/\many+sumI (vecI (names.zip vs) h no (b.take k))+manyS h*(rdE th.val+1)<=100000000000000/\count+k*manyS h+manyS h<=1000000000):=hd fun k th hx=>by
  rw[instS_vec hk hv] at hR
  obtain⟨r,hr⟩:∃r,vecI (names.zip vs) h no b=(vecI (names.zip vs) h no (b.take k) ++ rowI (names.zip vs) h (no+k) (.mk th []) (manyS h)) ++ r:=⟨vecI (names.zip vs) h (no+(b.take (k+1)).length) (b.drop (k+1)),by
   rw[<-vecI_take hx,<-vecI_append,List.take_append_drop]⟩
  rw[hr,List.append_assoc,<-List.append_assoc] at hR;have h1:=hR.pre;have h2:=(h1.post (rqV_len _ _ _ _ count)).1;obtain⟨h3,h4,h5⟩:=h1;rw[sumI_append,sumI_row] at h3 h4;rw[sumI_row] at h2;have hkl:=(List.getElem?_eq_some_iff.1 hx).1;rw[List.length_append,vecI_len,List.length_take,Nat.min_eq_left (by omega)] at h5;simp only[rowI,List.length_map,List.length_range] at h5;exact⟨h2,by show _+_+manyS h*(rdE (St.mk th []).h.val+1)<=_;omega,by omega⟩
 have HU:Hd (∀k,k<=b.length->U+2*(k*manyS h)<=100000000):=hd fun k hk2=>by
  rw[runN_vec hk hv,Nat.mul_add (manyS h),Nat.mul_one,Nat.mul_comm (manyS h)] at hU;have:=Nat.mul_le_mul_right (manyS h) hk2;omega
 have HUE:Hd (U+2*(b.length*manyS h)<=U+2*runN (names.zip vs) (.mk h b)):=hd (by
  rw[runN_vec hk hv,Nat.mul_add (manyS h),Nat.mul_one,Nat.mul_comm (manyS h)];omega)
 have HIS:=hd (instS_vec (env:=names.zip vs) (no:=no) (b:=b) hk hv);have HQS:=hd (rqS_vec (env:=names.zip vs) (no:=no) (c:=count) (b:=b) hk hv);have HVI:=hd (vecI_len (names.zip vs) h b no);rw[HIS.o,HQS.o];have HLN:=hd hG.len;have HNV:=hd hnv;have HQ:=hd hQ;have HE0:=hd hE0;have HN:=hd hN;have HVT:=hd (fun k x (hx:b[k]? = some x)=>vecI_take (env:=names.zip vs) (h:=h) (no:=no) hx);have HRT:=hd (fun k x (hx:b[k]? = some x)=>rqV_take (env:=names.zip vs) (h:=h) (no:=no) (c:=count) hx);have hn9:=hlb;have hn3:no+b.length<=3000:=by omega
 clear hQ hX hF hk hE0 hN hz hU hR hall hnm hnv hFs hG HIS HQS hv3 hlb hn9 hno;unfold stHV;obtain⟨a0,a1,a2,a3,a4,a5,a6,a7,-⟩:=stArr_get h b.length h.val.h h.val.ks.length;have HB0:=hd (Blk.new w 43 (stArr h b.length h.val.h h.val.ks.length));have HEx:=hd ((Ext.refl [] w).alloc (.cells (stArr h b.length h.val.h h.val.ks.length) 43));rw[<-hv0] at a2;generalize hmn:manyS h=mn at *;have HMN:=hd hmn;clear hmn;generalize hvf:valS h=V at *;clear hvf hv0;generalize stArr h b.length h.val.h h.val.ks.length=arr at *;rw[hv] at a5;generalize hbn:b.length=bn at *;have HBN:=hd hbn;clear hbn;generalize hnn:(names ++ [h.var]).length=nn at *;have HNN:=hd hnn;clear hnn;go_enter Tryz.func150,Tryz.ntmps150
 go_upto_region 1 with fail
 have HQ1:=hd (HQ.o.grow HEx.o);have HN1:=hd (HN.o.ext HEx.o (by simp));have HE1:=hd (HE0.o.trans HEx.o);have hw1:(World.alloc w (.cells arr 43)).heap.size=w.heap.size+1:=alloc_size _ _;generalize World.alloc w _=w1 at *;generalize hs0:w.heap.size=s0 at *;have q1:=HB0.o.cell;have ql:=HB0.o.lt;go_wp2_with fail
 clear q1 ql;go_loopw [44] (fun i wr=>∃(k:Nat) (V2:Option Nat),i=.int .i64 k/\k<=bn/\Hd (TobE tb mb V0 w1 V2 wr)/\Hd (TobQ tb mb B keep names vs (U+2*(k*mn)) (D ++ kL keep (rqV (names.zip vs) h no count (b.take k))) (many+sumI (vecI (names.zip vs) h no (b.take k))) (count+k*mn) V2 wr)) (fun i _=>(bn-intOf i).toNat)
 case atStart=>exact⟨0,V0,rfl,Nat.zero_le _,hd TobE.refl,hd (by simpa[kL,sumI,rqV,vecI] using HQ1.o)⟩
 case round=>
  obtain⟨k,V2,rfl,hk,HE,HQk⟩:=hrel;rename World=>wq
  by_cases hlt:k<bn
  ·obtain⟨bb,x,hbb,hx,hc⟩:=(HBR.o.keep (HE.o.stay HQ1.o HE1.o htb hmb)).at (i:=k) (by have:=HBN.o;omega);obtain⟨th,tl⟩:=x;have hmem:=List.mem_of_getElem? hx;have ht3:th.k=3:=H3.o _ hmem;have hFd:=HFS.o _ hmem
   have htl:tl=[]:=by
    cases hFd with
    | loop _ _ _ hk'=>omega
    | when _ _ _ hk'=>omega
    | store=>rfl
   subst htl;obtain⟨rm1,rm2,rm3⟩:=HRM.o k th hx;obtain⟨PD,PT,PM,PC,PU,PJ,hP⟩:=vec_plan (names.zip vs) h th (no+k) (count+k*mn) mn keep _ _ rm1 rm2;have HP:=hd hP
   have HDN:Hd (rqV (names.zip vs) h no count (b.take (k+1))=rqV (names.zip vs) h no count (b.take k) ++ PD 2):=hd (by
    rw[HRT.o k _ hx,HP.o.dd,<-HMN.o];rfl)
   have HIN:Hd (sumI (vecI (names.zip vs) h no (b.take (k+1)))=sumI (vecI (names.zip vs) h no (b.take k))+PM 2):=hd (by
    rw[HVT.o k _ hx,sumI_append,sumI_row,HP.o.mm];rfl)
   have hku:=HU.o (k+1) (by omega);have hk1:(k+1)*mn=k*mn+mn:=by rw[Nat.add_mul,Nat.one_mul]
   rw[hk1] at hku
   have HCALL:=hd (fun(x:Bool) (j:Nat) (hj:j<mn) p (hp:p=0/\x=false\/p=1/\x=true) U' V' W (hq:TobQ tb mb B keep (names ++ [h.var]) (vs ++ [V j]) U' (D ++ kL keep (rqV (names.zip vs) h no count (b.take k)) ++ kL keep (PD p ++ PT x j)) (many+sumI (vecI (names.zip vs) h no (b.take k))+(PM p+PJ x j)) (count+k*mn+j) V' W) (hE':Ext [] w0 W) (hN':NamB W NA (names ++ [h.var]))=>
    rinst_tob tb mb B nb (no+k) (count+k*mn+j) U' (many+sumI (vecI (names.zip vs) h no (b.take k))+(PM p+PJ x j)) nc keep (!x) x NA (names ++ [h.var]) (vs ++ [V j]) th w0 _ V' W (HGI.o j hj) htb hq (HST.o _ hmem) hFd ht3 hE' hN' ((HP.o.rm p x j hp hj).1) ((HP.o.rm p x j hp hj).2) (by omega))
   simp only[<-HES.o] at HCALL;have HPL:=hd (pl_built th (no+k) NA nn nc);rw[HNN.o] at HCALL;have hcast:((no+k:Nat):Int)=(no:Int)+k:=by omega
   rw[hcast] at HPL;have HW:=hd (fun j v hv=>hc j v hv:∀(j:Nat) (v:Value),(stArr th 0 th.val.h th.val.ks.length).toList[j]? = some v->wq.cell? ⟨bb,k*21+j,none⟩=some v);have HB2:=hd (Blk.new wq 43 (stArr th 0 th.val.h th.val.ks.length));have HEx2:=hd ((Ext.refl [] wq).alloc (.cells (stArr th 0 th.val.h th.val.ks.length) 43));have HSZ2:=hd (show(Tryz.prog.info? 43).map (·.size)=some (stArr th 0 th.val.h th.val.ks.length).size from infoSt);have HZS:=hd (show zSt.size=(stArr th 0 th.val.h th.val.ks.length).size from rfl);have HON:=hd (stArr_one th 0 th.val.h th.val.ks.length);have HPTS:=hd HP.o.ts;have HPJS:=hd HP.o.js;have hD0:=HP.o.d0;have hPD0:=hd HP.o.t0;clear hx hc hmem hFd ht3 hcast rm1 rm2 hP;generalize plA th (no+k) NA nn nc=arrP at *;generalize stArr th 0 th.val.h th.val.ks.length=arrT at *;rw[hbb] at a7;rw[hbb];have HK1:=hd hk1;clear hk1;generalize hkm:k*mn=km at *;generalize hD:D ++ kL keep (rqV (names.zip vs) h no count (b.take k))=D0 at *;generalize hM:many+sumI (vecI (names.zip vs) h no (b.take k))=many0 at *;generalize hC:count+km=c0 at *;have hQB:=HQ1.o.tch;have HBk:=hd (HE.o.blk HQ1.o HB0.o (by decide) (by decide));have q1:=HBk.o.cell;have ql:=HBk.o.lt
   go_upto_region 10 with(first
    | refine wpList_load_wide rfl 43 _ rfl bb (k*21) rfl arrT HW.o _ Tryz.underlying43 rfl HSZ2.o ?_
    | refine wpList_make_wide3 rfl rfl rfl 43 _ _ _ rfl rfl rfl zSt (zSt_run _) arrT _ rfl rfl rfl HSZ2.o HZS.o HON.o ?_)
   have HQ2:=hd (HQk.o.grow HEx2.o);have HE2:=hd (HE.o.grow HEx2.o);have hw2:(World.alloc wq (.cells arrT 43)).heap.size=wq.heap.size+1:=alloc_size _ _;generalize World.alloc wq _=w2 at *;generalize hsb:wq.heap.size=sb at *;clear q1 ql HW HZS HON HQk HE;obtain⟨vt,hvt⟩:=HQ2.o.tch;have qt:=hvt.cell;have qtl:=hvt.lt;clear hvt;go_upto_region 11 with fail
   clear qt qtl;have HG3:=hd (Blk.new w2 4 #[.bool false,.bool true]);have HEx3:=hd ((Ext.refl [] w2).alloc (.cells #[.bool false,.bool true] 4));have HQ3:=hd (HQ2.o.grow HEx3.o);have HE3:=hd (HE2.o.grow HEx3.o);have HB3:=hd (HB2.o.ext HEx3.o (by simp));have hbl:=HB2.o.lt;go_wp2_with fail
   generalize World.alloc w2 _=w3 at *;rw[hw2] at HG3;clear HQ2 HE2 HB2;go_loopw [55] (fun i wr=>∃(p:Nat) (V3:Option Nat),i=.int .i64 p/\p<=2/\Hd (TobE tb mb V0 w1 V3 wr)/\Hd (Blk wr sb 43 arrT/\Blk wr (sb+1) 4 #[.bool false,.bool true])/\Hd (TobQ tb mb B keep names vs (U+2*km+PU p) (D0 ++ kL keep (PD p)) (many0+PM p) (c0+PC p) V3 wr)) (fun i _=>(2-intOf i).toNat)
   case atStart=>exact⟨0,V2,rfl,by omega,HE3,hd ⟨HB3.o,HG3.o⟩,hd (by rw[HP.o.d0,HP.o.m0,HP.o.c0',HP.o.u0];simpa[kL] using HQ3.o)⟩
   case round=>
    obtain⟨p,V3,rfl,hp,HEp,HBp,HQp⟩:=hrel;rename World=>wp
    by_cases hp2:p<2
    ·obtain⟨x,hpx⟩:∃x:Bool,p=0/\x=false\/p=1/\x=true:=by
      by_cases h0:p=0
      ·exact⟨false,.inl ⟨h0,rfl⟩⟩
      ·exact⟨true,.inr ⟨by omega,rfl⟩⟩
     have HPX:=hd hpx
     have qg:wp.cell? ⟨sb+1,p,none⟩=some (.bool x):=by
      rw[HBp.o.2.cell];rcases HPX.o with⟨rfl,rfl⟩|⟨rfl,rfl⟩<;>rfl
     have qgl:=HBp.o.2.lt;have hpi:(p:Int)<2:=by omega
     obtain⟨vt,hvt⟩:=HQp.o.tch;have qt:=hvt.cell;have qtf:=hvt.frozen;have qtl:=hvt.lt;clear hvt hpx;have HEc:=hd (Ext.setAt (b:=tb) (i:=3) (u:=.int .i64 c0) (.inl (by simp)) (Ext.refl [tb] wp));have HQc:=hd (HQp.o.cnt c0);have HEd:=hd (HEp.o.one HEc.o (.inl rfl));go_upto_region 15 with fail
     have hne1:sb∉[tb]:=fun hm=>HQp.o.far HBp.o.1 (by decide) (by decide) (by rw[List.mem_singleton.1 hm];simp)
     have hne2:sb+1∉[tb]:=fun hm=>HQp.o.far HBp.o.2 (by decide) (by decide) (by rw[List.mem_singleton.1 hm];simp)
     have HBc:=hd (And.intro (HBp.o.1.ext HEc.o hne1) (HBp.o.2.ext HEc.o hne2));generalize World.setCell wp _ _=wc at *;clear qg qgl qt qtf qtl hne1 hne2;have HBs:=hd (HEd.o.blk HQ1.o HB0.o (by decide) (by decide));have q1:=HBs.o.cell;have ql:=HBs.o.lt;have hpu:=HP.o.ub p (by omega);go_wp2_with fail
     clear q1 ql;go_loopw [16] (fun y wr=>∃(j:Nat) (V4:Option Nat),y=.int .i64 (V j)/\j<=mn/\Hd (TobE tb mb V0 w1 V4 wr)/\Hd (Blk wr sb 43 arrT/\Blk wr (sb+1) 4 #[.bool false,.bool true])/\Hd (TobQ tb mb B keep names vs (U+2*km+PU p+j) (D0 ++ kL keep (PD p ++ PT x j)) (many0+(PM p+PJ x j)) (c0+j) V4 wr)) (fun y _=>(200000-intOf y).toNat)
     case atStart=>exact⟨0,V3,rfl,Nat.zero_le _,HEd,HBc,hd (by rw[HP.o.t0,HP.o.j0,List.append_nil];exact HQc.o)⟩
     case round=>
      obtain⟨j,V4,rfl,hj,HEj,HBj,HQj⟩:=hrel;rename World=>wj
      have HBs:=hd (HEj.o.blk HQ1.o HB0.o (by decide) (by decide));have q1:=HBs.o.cell;have ql:=HBs.o.lt;by_cases hlt2:j<mn
      ·have e1:V j<h.hi:=(HVL.o j).2 hlt2;have hvb:=HVB.o j hlt2;have hvs:=HVS.o j;have HVb:=hd hvb;unfold Bdd at hvb
       go_upto_region 19 with(
        refine wpList_mpr_put rfl _ _ _ rfl mb (U+2*km+PU p+j) names vs h.var (V j) rfl HQj.o.map rfl rfl HLN.o HNV.o HZ.o HVb.o (by omega) ?_
        intro w9 hm9 hE9;have HQ9:=hd (HQj.o.put hE9 hm9);have HE9:Hd (TobE tb mb V0 w1 V4 w9):=hd (HEj.o.one hE9 (.inr (.inl rfl)));have HB9:=hd (And.intro (HBj.o.1.ext hE9 fun hm=>HQj.o.far HBj.o.1 (by decide) (by decide) (by rw[List.mem_singleton.1 hm];simp)) (HBj.o.2.ext hE9 fun hm=>HQj.o.far HBj.o.2 (by decide) (by decide) (by rw[List.mem_singleton.1 hm];simp)));clear hm9 hE9 q1 ql)
       simp only[Act.put,List.setIfInBounds_toArray,List.set_cons_succ,List.set_cons_zero]
       go_wp2_with (first
        | refine wpList_load_wide rfl 43 _ rfl sb 0 rfl arrT HB9.o.1.wide _ Tryz.underlying43 rfl HSZ2.o ?_
        | (refine wpList_built rfl 238 _ rfl arrP ?cc ?_;case cc=>refine Eq.trans (congrArg (Tryz.prog.built 238) (?_:_=[(0,Value.agg arrT),(1,Value.int .i64 ((no:Int)+k)),(2,Value.slice NA nn nc)])) HPL.o;simp[Act.eval]))
       refine(HCALL.o x j hlt2 p HPX.o _ V4 w9 HQ9.o (HE9.o.stay HQ1.o HE1.o htb hmb) (HE9.o.nam HQ1.o HN1.o)).mono ?_
       rintro e w11 ⟨rfl,V5,hE3,hQ3⟩;have HE11:=hd (HE9.o.trans hE3);have HQ11:=hd hQ3;have HB11:=hd (And.intro (hE3.blk HQ9.o HB9.o.1 (by decide) (by decide)) (hE3.blk HQ9.o HB9.o.2 (by decide) (by decide)));have HBs:=hd (HE11.o.blk HQ1.o HB0.o (by decide) (by decide));clear hE3 hQ3;have q1:=HBs.o.cell;have ql:=HBs.o.lt;go_wp2_with fail
       go_roundw
       case rel=>
        refine⟨j+1,V5,rfl,by omega,HE11,HB11,hd ?_⟩
        have h1:=(HQ11.o.pop HLN.o).more (U':=U+2*km+PU p+(j+1)) (by omega);rw[HPTS.o,HPJS.o,<-List.append_assoc,kL_append keep (PD p ++ PT x j),<-List.append_assoc,<-Nat.add_assoc (PM p),<-Nat.add_assoc many0];exact h1
       case measure=>simp[intOf];omega
      ·have hjn:j=mn:=by omega
       subst hjn;have e0:¬V j<h.hi:=fun hh=>hlt2 ((HVL.o j).1 hh)
       have e1:decide (V j<h.hi)=false:=by simpa using e0
       clear e0;go_wp2_with fail
       go_roundw
       case rel=>
        refine⟨p+1,V4,by go_num,by omega,HEj,HBj,hd ?_⟩
        rw[HP.o.ds p x HPX.o,HP.o.ms p x HPX.o,HP.o.us,HP.o.cs,<-Nat.add_assoc];exact HQj.o
       case measure=>simp[intOf];omega
    ·have hp2':p=2:=by omega
     subst hp2';go_wp2_with fail
     go_roundw
     case rel=>
      refine⟨k+1,V3,by go_num,by omega,HEp,hd ?_⟩
      have hu:PU 1=PU 0+mn:=HP.o.us 0;have hu2:PU 2=PU 1+mn:=HP.o.us 1;have hu0:=HP.o.u0;have h1:=HQp.o.more (U':=U+2*(km+mn)) (by omega);rw[HK1.o,HDN.o,HIN.o,kL_append,<-List.append_assoc,hD,<-Nat.add_assoc,hM,<-Nat.add_assoc,hC];have h2:PC 2=mn:=HP.o.cs 1;rw[h2] at h1;exact h1
     case measure=>simp[intOf];omega
  ·have hkb:k=bn:=by omega
   subst hkb;have HT:Hd (b.take k=b):=hd (List.take_of_length_le (by have:=HBN.o;omega));rw[HT.o] at HQk;go_wp2_with fail
   refine bodyPost_end (results_none rfl _ _ _) rfl ⟨rfl,V2,⟨fun g hg=>(HE.o.1 g hg).imp id fun h1=>by omega,HEx.o.nil.trans HE.o.2⟩,?_⟩
   rw[HVI.o];exact HQk.o.more HUE.o
end
end Go.Proofs.YtfjdmoppfbddpaaGreatDoor
