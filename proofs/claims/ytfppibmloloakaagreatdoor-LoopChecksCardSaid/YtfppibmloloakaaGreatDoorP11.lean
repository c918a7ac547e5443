import Derived.Test.YtfppibmloloakaaGreatDoorP10
namespace Go.Proofs.YtfppibmloloakaaGreatDoor
open Go.RowKit Go.Proofs.Tryz
set_option linter.all false
def goL (G:List Inst->Inst->Bool):List Inst->List Inst->List Inst×Bool
 | d,[]=>(d,true)
 | d,i :: r=>if G d i then goL G (d ++ [i]) r else(d ++ [i],false)
theorem goL_yes {G:List Inst->Inst->Bool}{d:List Inst}{i:Inst}(h:G d i=true)(r:List Inst):goL G d (i :: r)=goL G (d ++ [i]) r:=by simp[goL,h]
theorem goL_no {G:List Inst->Inst->Bool}{d:List Inst}{i:Inst}(h:G d i=false)(r:List Inst):goL G d (i :: r)=(d ++ [i],false):=by simp[goL,h]
theorem goL_stop {G:List Inst->Inst->Bool}{b:List Inst}:∀{a d:List Inst},(goL G d a).2=false->goL G d (a ++ b)=goL G d a
 | [],d,h=>by simp[goL] at h
 | i :: a,d,h=>by
  cases hg:G d i
  ·rw[List.cons_append,goL_no hg,goL_no hg]
  ·rw[goL_yes hg] at h;rw[List.cons_append,goL_yes hg,goL_yes hg];exact goL_stop h
theorem goL_on {G:List Inst->Inst->Bool}{b:List Inst}:∀{a d:List Inst},(goL G d a).2=true->goL G d (a ++ b)=goL G (goL G d a).1 b
 | [],d,h=>rfl
 | i :: a,d,h=>by
  cases hg:G d i
  ·rw[goL_no hg] at h;cases h
  ·rw[goL_yes hg] at h;rw[List.cons_append,goL_yes hg,goL_yes hg];exact goL_on h
theorem goL_one (G:List Inst->Inst->Bool)(d:List Inst)(i:Inst):goL G d [i]=(d ++ [i],G d i):=by
 simp only[goL];by_cases h:G d i=true
 ·rw[if_pos h,h]
 ·rw[if_neg h];simp at h;rw[h]
theorem catN_more {α:Type}(f:Nat->List α){j n:Nat}(h:j<=n):∃r,catN n f=catN j f ++ r:=by
 induction n with
 | zero=>exact⟨[],by
             have:j=0:=by omega
             subst this;simp⟩
 | succ n ih=>
  rcases Nat.lt_or_ge n j with h1|h1
  ·have:j=n+1:=by omega
   subst this;exact⟨[],by simp⟩
  ·obtain⟨r,hr⟩:=ih h1;exact⟨r ++ f n,by rw[catN_succ,hr,List.append_assoc]⟩
theorem goL_cat {G:List Inst->Inst->Bool}{d:List Inst}{f:Nat->List Inst}{j n:Nat}(h:(goL G d (catN j f)).2=false)(hj:j<=n):goL G d (catN n f)=goL G d (catN j f):=by
 obtain⟨r,hr⟩:=catN_more f hj;rw[hr,goL_stop h]
theorem rowI_more (env:Env)(h:SH)(no:Nat)(s:St){j n:Nat}(hj:j<=n):∃r,rowI env h no s n=rowI env h no s j ++ r:=by
 induction n with
 | zero=>exact⟨[],by
             have:j=0:=by omega
             subst this;simp⟩
 | succ n ih=>
  rcases Nat.lt_or_ge n j with h1|h1
  ·have:j=n+1:=by omega
   subst this;exact⟨[],by simp⟩
  ·obtain⟨r,hr⟩:=ih h1;exact⟨r ++ [⟨no,s.h,envS env h n⟩],by rw[rowI_succ,hr,List.append_assoc]⟩
theorem goL_row {G:List Inst->Inst->Bool}{d:List Inst}{env:Env}{h:SH}{no:Nat}{bs:List St}{i j:Nat}{s:St}(hs:bs[i]? = some s)(hj:j<=manyS h)(hg:(goL G d (vecI env h no (bs.take i) ++ rowI env h (no+i) s j)).2=false):goL G d (vecI env h no bs)=goL G d (vecI env h no (bs.take i) ++ rowI env h (no+i) s j):=by
 obtain⟨r,hr⟩:=rowI_more env h (no+i) s hj;have h1:=vecI_append env h no (bs.take (i+1)) (bs.drop (i+1));rw[List.take_append_drop,vecI_take hs,hr] at h1;rw[h1,<-List.append_assoc,List.append_assoc (_ ++ _),goL_stop hg]
theorem stores_all {bs:List St}{nb:Nat}{vars:List ByteArray}(h3:∀s∈bs,s.h.k=3)(hF:∀s∈bs,Fd nb vars s):storesL bs=bs.length:=by
 induction bs with
 | nil=>rfl
 | cons s bs ih=>
  have h1:=h3 s (List.mem_cons_self ..);have h2:=hF s (List.mem_cons_self ..)
  have h4:storesS s=1:=by
   cases h2 with
   | loop _ _ _ h=>simp only[St.h] at h1;omega
   | when _ _ _ h=>simp only[St.h] at h1;omega
   | store _ _ h=>simp[storesS,h,storesL]
  simp only[storesL,List.length_cons,h4,ih (fun s hs=>h3 s (List.mem_cons_of_mem _ hs)) fun s hs=>hF s (List.mem_cons_of_mem _ hs)];omega
def LastG (G:List Inst->Inst->Bool)(d:List Inst):Prop:=∀p i,d=p ++ [i]->G p i=true
theorem LastG.go {G:List Inst->Inst->Bool}:∀{a d:List Inst},LastG G d->(goL G d a).2=true->LastG G (goL G d a).1
 | [],d,h,_=>h
 | i :: a,d,h,h2=>by
  cases hg:G d i
  ·rw[goL_no hg] at h2;cases h2
  ·rw[goL_yes hg] at h2⊢;refine LastG.go (fun p j hp=>?_) h2
   obtain⟨e1,e2⟩:=List.append_inj' hp rfl;subst e1;cases e2
   exact hg
structure DoC (f:FuncId)(caps:Array Value)(C:List Nat)(n nb eb:Nat)(L:List Nat)(G:List Inst->Inst->Bool)(I:List Inst->World->Prop):Prop where
 enters:∀args w,(callFunc f args).run Tryz.prog w=.ok (.enter f args) w
 low:∀x∈C,n<=x/\x≠eb
 keep:∀d w w',Ext [eb] w w'->I d w->I d w'
 call:∀(d:List Inst) (i:Inst) (g:Nat) (names:List ByteArray) (vs:List Int) (w:World),I d w->LastG G d->StoAt w g names nb i.s i.no->L[i.no]? = some g->EnvR w eb vs->vs.length=names.length->i.env=names.zip vs->
  Calls Tryz.prog f (#[ptV g,.slice (some ⟨eb,0,none⟩) vs.length 8] ++ caps) w fun e w'=>e=.returned (.bool (G d i))/\Ext C w w'/\I (d ++ [i]) w'
def WalkP (C:List Nat)(eb:Nat)(vs:List Int)(G:List Inst->Inst->Bool)(I:List Inst->World->Prop)(d l:List Inst)(w:World)(e:Ending)(w':World):Prop:=
 e=.returned (.bool (goL G d l).2)/\Ext (eb :: C) w w'/\I (goL G d l).1 w'/\EnvR w' eb vs
def WalkC (l:List St):Prop:=∀(f:FuncId) (caps:Array Value) (C:List Nat) (n nb eb:Nat) (G:List Inst->Inst->Bool) (I:List Inst->World->Prop) (A:Option Addr) (cap:Nat) (gs:List Nat) (names:List ByteArray) (vs:List Int) (no:Nat) (xs:List Int) (gl L:List Nat) (AL:List Value) (d:List Inst) (w:World),
 DoC f caps C n nb eb L G I->LstAt w n nb L AL names xs gl no A gs l->EnvR w eb vs->vs.length=names.length->n<=eb->I d w->LastG G d->
  Calls Tryz.prog 148 #[.slice A l.length cap,.slice (some ⟨eb,0,none⟩) vs.length 8,.func (.func f) #[] caps] w (WalkP C eb vs G I d (instL (names.zip vs) no l) w)
theorem StoAt.of {w:World}{n nb:Nat}{L:List Nat}{AL:List Value}{names:List ByteArray}{path:List Int}{gl:List Nat}{no g:Nat}{h:SH}{b:List St}{pb po:Nat}{CA:Option Addr}{cc:Nat}{A:Option Addr}{cap:Nat}{gs:List Nat}{PA:Option Addr}{pc:Nat}{vv:Value}(k:CStF w n L AL names path gl no g h b pb po CA cc A cap gs PA pc vv)(hk:h.k=3)(hF:Fd nb names (.mk h b)):StoAt w g names nb h no:=by
 obtain⟨vb,LA,lc,rfl,hx,-,-,-⟩:=k.val hk;have hb:=k.blk;rw[if_pos hk,if_pos hk,if_pos hk] at hb
 have h3:affE names h.at_=0/\exprE names nb h.val=0/\(0<=h.buf/\h.buf<nb):=by
  cases hF with
  | loop _ _ _ h1=>omega
  | when _ _ _ h1=>omega
  | store _ _ h1 h2 h3 h4 h5 h6=>exact⟨h4,h5,h3⟩
 refine⟨⟨pb,po,vb,n,[],hb.cell 0,k.src 8 _ rfl,hb.cell 16,hx⟩,fun j v hv=>?_,hb.cell 5,h3.1,h3.2.1,h3.2.2⟩
 rw[hb.cell];have h9:=(List.getElem?_eq_some_iff.1 hv).1;have:j=0\/j=1\/j=2\/j=3\/j=4\/j=5\/j=6\/j=7\/j=8:=by simp[lnArr] at h9;omega
 rcases this with rfl|rfl|rfl|rfl|rfl|rfl|rfl|rfl|rfl<;>exact hv
attribute [local irreducible] relAt
set_option maxHeartbeats 16000000 in
set_option maxRecDepth 100000 in
theorem walk_list (l:List St)(ih:∀s∈l,WalkC s.body):WalkC l:=by
 intro f caps C n nb eb G I A cap gs names vs no xs gl L AL dn w hD hA hV hl hne hI hLT;have HLT:=hd hLT;clear hLT;have HI:=hd ih;have HDO:=hd hD;have HA:=hd hA;have HV:=hd hV;have HL:=hd hl;have HII:=hd hI;have hn9:gs.length<=1000000:=hA.row.1;have hd7:=hV.1;clear ih hD hA hV hl hI;generalize hn:l.length=m at *;have HN:=hd hn;generalize hd':vs.length=d at *;have HD:=hd hd';have hm9:m<=1000000:=by have:=HA.o.len;omega
 clear hn hd';generalize henv:names.zip vs=env at *;have HENV:=hd henv;clear henv
 have hS:∀x∈eb :: C,n<=x:=fun x hx=>by
  rcases List.mem_cons.1 hx with rfl|hx
  ·exact hne
  ·exact(HDO.o.low x hx).1
 have HSS:=hd hS;have HEC:Hd (eb∉C):=hd fun h=>(HDO.o.low eb h).2 rfl
 clear hS;go_enter Tryz.func148,Tryz.ntmps148
 go_wp2_with fail
 go_loopw [15] (fun i wr=>∃k:Nat,i=.int .i64 k/\k<=m/\Hd (Ext (eb :: C) w wr)/\Hd (I (goL G dn (instL env no (l.take k))).1 wr)/\Hd (EnvR wr eb vs)/\Hd ((goL G dn (instL env no (l.take k))).2=true)) (fun i _=>(m-intOf i).toNat)
 case atStart=>exact⟨0,rfl,Nat.zero_le _,hd (Ext.refl _ _),hd (by simpa[instL,goL] using HII.o),HV,hd (by simp[instL,goL])⟩
 case round=>
  obtain⟨k,rfl,hk,HE,HIk,HVk,HK⟩:=hrel;rename World=>wq
  by_cases hlt:k<m
  ·have hkm:(k:Int)<(m:Int):=by omega
   have HAq:=hd (HA.o.step HE.o HSS.o);obtain⟨bA,g,rfl,hg,hgc⟩:=HAq.o.row.at (i:=k) (by have:=HA.o.len;have:=HN.o;omega);have hgq:wq.cell? ⟨bA,k,none⟩=some (.pointer (some ⟨g,0,none⟩)):=by have:=hgc 0 _ rfl;rw[Nat.mul_one,Nat.add_zero] at this;exact this
   have hgql:=World.block_lt_of_cell? wq _ hgq;simp only at hgql;obtain⟨s,hs⟩:∃s,l[k]? = some s:=⟨_,List.getElem?_eq_getElem (by have:=HN.o;omega)⟩;obtain⟨h,bs⟩:=s;have hmem:=List.mem_of_getElem? hs;obtain⟨pb,po,CA,cc,BA,bcap,bgs,PA,pc,vv,hC⟩:=(HAq.o.at_ k g _ hg hs).open_;have HC:=hd hC;have HFD:=hd (HA.o.fd _ hmem);have HIH:=hd (HI.o _ hmem);have HIN:=hd (instL_take (env:=env) (no:=no) hs);have HIL:=hd (instL_append env no (l.take (k+1)) (l.drop (k+1)));rw[List.take_append_drop] at HIL;clear hg hgc hs hmem hC;have HLT2:=hd (LastG.go HLT.o HK.o);generalize hlk:goL G dn (instL env no (l.take k))=dk at *;have HDK:=hd hlk;clear hlk;have HGT:Hd (goL G dn (instL env no (l.take (k+1)))=goL G dk.1 (instS env (no+storesL (l.take k)) (.mk h bs))):=hd (by rw[HIN.o,goL_on (by rw[HDK.o];exact HK.o),HDK.o])
   have HGF:Hd ((goL G dk.1 (instS env (no+storesL (l.take k)) (.mk h bs))).2=false->goL G dn (instL env no l)=goL G dk.1 (instS env (no+storesL (l.take k)) (.mk h bs))):=hd fun hf=>by
    rw[HIL.o,goL_stop (by rw[HGT.o];exact hf),HGT.o]
   generalize hno:no+storesL (l.take k)=nk at *;have qg0:wq.cell? ⟨g,0,none⟩=some (.pointer (some ⟨pb,po,none⟩)):=HC.o.blk.cell 0;have qgl:=HC.o.blk.lt;have qk:wq.cell? ⟨pb,po,none⟩=some (.int .i64 h.k):=HC.o.src 0 _ rfl;have qpl:=World.block_lt_of_cell? wq _ qk;simp only at qpl;have hgn:=HC.o.gn;have hpn:=HC.o.pn;have HNS:Hd (∀b,b<n->b∉eb :: C):=hd fun b hb hm=>by have:=HSS.o b hm;omega
   by_cases hk3:h.k=3
   ·
    have e3:(h.k==3)=true:=by simpa using hk3
    have HKK:=hd hk3;have HST:=hd (StoAt.of HC.o hk3 HFD.o);have HLG:Hd (L[nk]? = some g):=hd (by obtain⟨_,_,_,_,_,h5,_⟩:=HC.o.val hk3;exact h5);generalize h.k=hk at qk e3;clear hk3;have HCA:=hd (HDO.o.call dk.1 ⟨nk,h,env⟩ g names vs wq HIk.o HLT2.o HST.o HLG.o HVk.o (by rw[HD.o];exact HL.o) HENV.o.symm);rw[HD.o] at HCA;unfold ptV at HCA;have HRS:Hd (instS env nk (.mk h bs)=[⟨nk,h,env⟩]):=hd (instS_store HKK.o);rw[HRS.o,goL_one] at HGT HGF;go_wp2_with fail
    rw[HDO.o.enters,Oper.upon_enter];refine HCA.o.mono ?_
    rintro e w2 ⟨rfl,hE,hIw⟩;have HE2:=hd hE;have HI2:=hd hIw;clear hE hIw HCA;cases hok:G dk.1 ⟨nk,h,env⟩
    ·have hfin:=HGF.o hok;rw[hok] at hfin;have HFI:=hd hfin;clear hfin hok;go_wp2_with fail
     go_ret
     exact⟨by rw[HFI.o];rfl,HE.o.trans (HE2.o.mono fun x hx=>.inl (List.mem_cons_of_mem _ hx)),by rw[HFI.o];exact HI2.o,HVk.o.keep HE2.o HEC.o⟩
    ·have hgt:=HGT.o;rw[hok] at hgt;have HFI:=hd hgt;clear hgt hok;go_wp2_with fail
     go_roundw
     case rel=>exact⟨k+1,by go_num,by omega,hd (HE.o.trans (HE2.o.mono fun x hx=>.inl (List.mem_cons_of_mem _ hx))),hd (by rw[HFI.o];exact HI2.o),hd (HVk.o.keep HE2.o HEC.o),hd (by rw[HFI.o])⟩
     case measure=>simp[intOf];omega
   ·have e3:(h.k==3)=false:=by simpa using hk3
    by_cases hk2:h.k=2
    ·
     have e2:(h.k==2)=true:=by simpa using hk2
     have HIV:Hd (innerV names h=names):=hd (if_neg (by omega))
     have HHO:=hd (holds_any g CA h.conds.length cc h names eb vs wq (by have:=HC.o.blk.cell 3;rw[this];simp[csArr,hk2]) rfl (HC.o.cond hk2).1 (by
       have:=HFD.o;cases this with
       | loop _ _ _ h1=>omega
       | when _ _ _ _ _ h1 h2=>exact h1
       | store _ _ h1=>omega) HVk.o (by rw[HD.o];exact HL.o))
     rw[HD.o,HENV.o] at HHO;have HRS:=hd (instS_when hk2:instS env nk (.mk h bs)=_);rw[HRS.o] at HGT HGF;generalize h.k=hk at qk e2 e3;clear hk2 hk3;go_wp2_with fail
     refine HHO.o.mono ?_
     rintro e w2 ⟨rfl,hE⟩;have HE2:=hd hE;clear hE HHO;have qg4:w2.cell? ⟨g,4,none⟩=some (.slice BA bs.length bcap):=(HC.o.blk.ext HE2.o (by simp)).cell 4;have qg2l:=(HC.o.blk.ext HE2.o (by simp)).lt;have HI2:=hd (HDO.o.keep _ _ _ HE2.o.nil HIk.o);have HV2:=hd (HVk.o.keep HE2.o (by simp));cases hh:holdsS env h
     ·rw[hh] at HGT HGF;simp only[Bool.false_eq_true,if_false,goL] at HGT;have HFI:=HGT;clear hh;go_wp2_with fail
      go_roundw
      case rel=>exact⟨k+1,by go_num,by omega,hd (HE.o.trans HE2.o.nil),hd (by rw[HFI.o];exact HI2.o),HV2,hd (by rw[HFI.o])⟩
      case measure=>simp[intOf];omega
     ·rw[hh] at HGT HGF;simp only[if_true] at HGT HGF;clear hh;have HLA:=hd ((LstAt.body HC.o HFD.o).step HE2.o (by simp));rw[HIV.o] at HLA;have HQ:=hd (HIH.o f caps C n nb eb G I BA bcap bgs names vs nk (xs ++ [(k:Int)]) (innerG gl h g) L AL dk.1 w2 HDO.o HLA.o HV2.o (by rw[HD.o];exact HL.o) hne HI2.o HLT2.o);simp only[St.body] at HQ;rw[HD.o,HENV.o] at HQ;go_wp2_with fail
      refine HQ.o.mono ?_
      rintro e w3 ⟨rfl,hE3,hI3,hV3⟩;have HE3:=hd hE3;have HI3:=hd hI3;have HV3:=hd hV3;clear hE3 hI3 hV3 HQ;cases hok:(goL G dk.1 (instL env nk bs)).2
      ·have HFI:=hd (HGF.o hok);have HOK:=hd hok;clear hok;go_wp2_with fail
       go_ret
       exact⟨by rw[HFI.o,HOK.o];rfl,(HE.o.trans HE2.o.nil).trans HE3.o,by rw[HFI.o];exact HI3.o,HV3.o⟩
      ·have HOK:=hd hok;clear hok;go_wp2_with fail
       go_roundw
       case rel=>exact⟨k+1,by go_num,by omega,hd ((HE.o.trans HE2.o.nil).trans HE3.o),hd (by rw[HGT.o];exact HI3.o),HV3,hd (by rw[HGT.o];exact HOK.o)⟩
       case measure=>simp[intOf];omega
    ·have e2:(h.k==2)=false:=by simpa using hk2
     have hk1:h.k=1:=by
      have:=HFD.o;cases this with
      | loop _ _ _ h1=>exact h1
      | when _ _ _ h1=>omega
      | store _ _ h1=>omega
     have qg2:wq.cell? ⟨g,2,none⟩=some (.int .i64 (if h.k=1 then(manyS h:Int) else 0)):=HC.o.blk.cell 2;have qg4:wq.cell? ⟨g,4,none⟩=some (.slice BA bs.length bcap):=HC.o.blk.cell 4;have qv:wq.cell? ⟨pb,po+5,none⟩=some (.bool h.vec):=HC.o.src 5 _ rfl;rw[if_pos hk1] at qg2;have HKK:=hd hk1
     have HBD:Hd ((-100000<=h.lo/\h.lo<=100000)/\(-100000<=h.hi/\h.hi<=100000)/\(1<=h.step/\h.step<=100000)/\names.length<8):=hd (by
      have:=HFD.o;cases this with
      | loop _ _ _ _ _ _ h0 h1 h2 h3=>exact⟨h1,h2,h3,h0⟩
      | when _ _ _ h1=>omega
      | store _ _ h1=>omega)
     have HVF:Hd (h.vec=true->∀s∈bs,s.h.k=3):=hd (by
      have:=HFD.o;cases this with
      | loop _ _ _ _ _ _ _ _ _ _ h4=>exact h4
      | when _ _ _ h1=>omega
      | store _ _ h1=>omega)
     have hmy:manyS h<=200000:=manyS_le HBD.o.1 HBD.o.2.1 HBD.o.2.2.1;generalize h.k=hk at qk e2 e3;clear hk1 hk2 hk3;cases hvec:h.vec
     ·
      rw[hvec] at qv;have HRS:=hd (instS_for HKK.o hvec:instS env nk (.mk h bs)=_);rw[HRS.o] at HGT HGF;clear hvec;generalize hmn:manyS h=mn at *;have HMN:=hd hmn;clear hmn;go_wp2_with fail
      clear qg2;go_loopw [23] (fun i wx=>∃j:Nat,i=.int .i64 j/\j<=mn/\Hd (Ext (eb :: C) wq wx)/\Hd (I (goL G dk.1 (catN j fun k=>instL (envS env h k) nk bs)).1 wx)/\Hd (EnvR wx eb vs)/\Hd ((goL G dk.1 (catN j fun k=>instL (envS env h k) nk bs)).2=true)) (fun i _=>(mn-intOf i).toNat)
      case atStart=>exact⟨0,rfl,Nat.zero_le _,hd (Ext.refl _ _),hd (by simpa[catN_zero,goL] using HIk.o),HVk,hd (by simp[catN_zero,goL])⟩
      case round=>
       obtain⟨j,rfl,hj,HEJ,HIJ,HVJ,HNJ⟩:=hrel;rename World=>wj
       by_cases hjl:j<mn
       ·have hjm:(j:Int)<(mn:Int):=by omega
        have HXJ:=HEJ;have q0:wj.cell? ⟨g,0,none⟩=some (.pointer (some ⟨pb,po,none⟩)):=HXJ.o.held qg0 (HNS.o g hgn);have q4:wj.cell? ⟨g,4,none⟩=some (.slice BA bs.length bcap):=HXJ.o.held qg4 (HNS.o g hgn);have ql:wj.cell? ⟨pb,po+2,none⟩=some (.int .i64 h.lo):=HXJ.o.held (HC.o.src 2 _ rfl) (HNS.o pb hpn);have qs:wj.cell? ⟨pb,po+4,none⟩=some (.int .i64 h.step):=HXJ.o.held (HC.o.src 4 _ rfl) (HNS.o pb hpn)
        have HQJ:Hd (∀W,Ext [eb] wj W->W.cell? ⟨g,0,none⟩=some (.pointer (some ⟨pb,po,none⟩))/\W.cell? ⟨g,4,none⟩=some (.slice BA bs.length bcap)/\g<W.heap.size/\W.cell? ⟨pb,po+2,none⟩=some (.int .i64 h.lo)/\W.cell? ⟨pb,po+4,none⟩=some (.int .i64 h.step)/\pb<W.heap.size):=hd fun W hW=>by
         have hnot1:∀b,b<n->b∉[eb]:=fun b hb hm=>by rw[List.mem_singleton] at hm;omega
         have h1:=hW.size;have h2:=HXJ.o.size;exact⟨hW.held q0 (hnot1 g hgn),hW.held q4 (hnot1 g hgn),by omega,hW.held ql (hnot1 pb hpn),hW.held qs (hnot1 pb hpn),by omega⟩
        have HXV:=hd (valS_bdd HBD.o.1 HBD.o.2.1 HBD.o.2.2.1 (by rw[HMN.o];exact hjl):Bdd (valS h j));have hds:d<8:=by have:=HBD.o.2.2.2;have:=HL.o;omega
        have HEV:=hd (envS_zip (by rw[HD.o];exact HL.o) h j:envS (names.zip vs) h j=_);rw[HENV.o] at HEV;have hvlo:=HBD.o.1;unfold valS at HXV HEV;generalize hlo:h.lo=lo at *;generalize hst:h.step=st at *;clear q0 q4 ql qs;have m1 : -9223372036854775808<=(j:Int)*st:=by have:=HXV.o.1;omega
        have m2:(j:Int)*st<=9223372036854775807:=by have:=HXV.o.2;omega
        have m3 : -9223372036854775808<=lo+(j:Int)*st:=by have:=HXV.o.1;omega
        have m4:lo+(j:Int)*st<=9223372036854775807:=by have:=HXV.o.2;omega
        clear hlo hst;have HSU:=hd (catN_succ j fun k=>instL (envS env h k) nk bs);have HSC:Hd ((goL G dk.1 (catN (j+1) fun k=>instL (envS env h k) nk bs)).2=false->goL G dk.1 (catN mn fun k=>instL (envS env h k) nk bs)=goL G dk.1 (catN (j+1) fun k=>instL (envS env h k) nk bs)):=hd fun hf=>goL_cat hf (by omega)
        rw[HSU.o,goL_on HNJ.o] at HSC;have HIV:Hd (innerV names h=names ++ [h.var]):=hd (if_pos HKK.o);go_upto_region 7 with fail
        refine rgW 25 [eb] (fEnv eb d (lo+(j:Int)*st)) [(22,sCells wj.heap.size [.int .i64 (lo+(j:Int)*st)]),(23,sEnv eb (d+1) (vs ++ [lo+(j:Int)*st]))] ?_ ?_
        ·refine Stays.cons (sCells.stays fun b j u y hb hu hf=>?_) (Stays.cons (sEnv.stays fun y hy=>?_) Stays.nil)
         ·have h9:b=eb:=hf.1;have:=HVJ.o.lt;omega
         ·rw[<-HD.o,List.getElem?_append_right (Nat.le_refl _),Nat.sub_self] at hy;cases hy
          rfl
        simp only[List.take_succ_cons,List.take_zero,List.drop_succ_cons,List.drop_zero]
        repeat
         refine relAt_det rfl rfl ?_
         apply Exists.intro
         refine⟨fun wr nr hJ=>?_,?_⟩
         ·obtain⟨q0,q4,qgl,ql,qs,qpl⟩:=HQJ.o wr hJ.1;clear hJ;(go_simp;try go_bits)
          first|rfl|exact⟨rfl,rfl⟩
         simp only[Act.put,List.setIfInBounds_toArray,List.set_cons_succ,List.set_cons_zero]
        refine rel_newL (sCells wj.heap.size [.int .i64 (lo+(j:Int)*st)]) rfl rfl (fun wr nr hJ hf=>?_) ?_
        ·refine⟨wr.heap.size,.cells #[.int .i64 (lo+(j:Int)*st)] 3,?_,Ext.size hJ.1,cells_one _ _ _ ((Blk.new wr 3 #[.int .i64 (lo+(j:Int)*st)]).cell 0)⟩
         (go_simp;try go_bits)
         first|rfl|exact⟨rfl,rfl⟩
        intro (b23:Nat);simp only[Act.put,List.setIfInBounds_toArray,List.set_cons_succ,List.set_cons_zero];refine rel_push eb b23 1 d vs (lo+(j:Int)*st) _ _ rfl rfl rfl rfl rfl HD.o hds HXV.o (fun wr nr hJ hf=>?_) ?_
        ·have h23:(sCells wj.heap.size [.int .i64 (lo+(j:Int)*st)]).V b23 wr:=get_after hf 22 (by kernel_rfl);exact⟨HVJ.o.rw hJ.2 fun y hy=>by have:=(List.getElem?_eq_some_iff.1 hy).1;have:=HD.o;omega,h23.2 0 _ rfl⟩
        simp only[Act.put,List.setIfInBounds_toArray,List.set_cons_succ,List.set_cons_zero]
        repeat
         refine relAt_det rfl rfl ?_
         apply Exists.intro
         refine⟨fun wr nr hJ=>?_,?_⟩
         ·skip
          clear hJ;(go_simp;try go_bits)
          first|rfl|exact⟨rfl,rfl⟩
         simp only[Act.put,List.setIfInBounds_toArray,List.set_cons_succ,List.set_cons_zero]
        refine relAt_nil (fun w5 hJ hF=>?_)
        have HV5:Hd (EnvR w5 eb (vs ++ [lo+(j:Int)*st])):=hd (hF 23);have HE5:=hd hJ.1;clear hF hJ;have HXQ:Hd (Ext (eb :: C) wq w5):=hd (HEJ.o.trans (HE5.o.mono fun x hx=>.inl (by rw[List.mem_singleton.1 hx];simp)));have HLA:=hd ((LstAt.body HC.o HFD.o).step HXQ.o HSS.o);rw[HIV.o] at HLA;have HQ:=hd (HIH.o f caps C n nb eb G I BA bcap bgs (names ++ [h.var]) (vs ++ [lo+(j:Int)*st]) nk (xs ++ [(k:Int)]) (innerG gl h g) L AL _ w5 HDO.o HLA.o HV5.o (by simp;have:=HL.o;have:=HD.o;omega) hne (HDO.o.keep _ _ _ HE5.o HIJ.o) (LastG.go HLT2.o HNJ.o));simp only[St.body] at HQ;rw[<-HEV.o,List.length_append,List.length_singleton,HD.o] at HQ;clear HLA;go_wp2_with fail
        refine HQ.o.mono ?_
        rintro e w7 ⟨rfl,hE7,hI7,hV7⟩;have HE7:=hd hE7;have HI7:=hd hI7;have HV7:=hd hV7.pop;clear hE7 hI7 hV7 HQ HV5;have HX7:Hd (Ext (eb :: C) wq w7):=hd (HXQ.o.trans HE7.o);cases hok:(goL G (goL G dk.1 (catN j fun k=>instL (envS env h k) nk bs)).1 (instL (envS env h j) nk bs)).2
        ·have HST:=hd (HSC.o hok);have HFI:=hd (HGF.o (by rw[HST.o];exact hok));have HOK:=hd hok;clear hok;go_wp2_with fail
         go_ret
         exact⟨by rw[HFI.o,HST.o,HOK.o];rfl,HE.o.trans HX7.o,by rw[HFI.o,HST.o];exact HI7.o,HV7.o⟩
        ·have HOK:=hd hok;clear hok;go_wp2_with fail
         go_roundw
         case rel=>exact⟨j+1,by go_num,by omega,HX7,hd (by rw[HSU.o,goL_on HNJ.o];exact HI7.o),HV7,hd (by rw[HSU.o,goL_on HNJ.o];exact HOK.o)⟩
         case measure=>simp[intOf];omega
       ·have hjm:j=mn:=by omega
        subst hjm;go_wp2_with fail
        go_roundw
        case rel=>exact⟨k+1,by go_num,by omega,hd (HE.o.trans HEJ.o),hd (by rw[HGT.o];exact HIJ.o),HVJ,hd (by rw[HGT.o];exact HNJ.o)⟩
        case measure=>simp[intOf];omega
     ·
      rw[hvec] at qv;have HRS:=hd (instS_vec HKK.o hvec:instS env nk (.mk h bs)=_);rw[HRS.o] at HGT HGF;have HV3:=hd (HVF.o hvec);have HFK:Hd (∀s∈bs,Fd nb (innerV names h) s):=hd (LstAt.body HC.o HFD.o).fd;have HIV:Hd (innerV names h=names ++ [h.var]):=hd (if_pos HKK.o);have HG2:=hd qg2;clear hvec qg2;have hbl9:bs.length<=1000000:=by have:=HC.o.row.1.1;have:=HC.o.len;omega
      go_wp2_with fail
      go_loopw [103] (fun i wx=>∃a:Nat,i=.int .i64 a/\a<=bs.length/\Hd (Ext (eb :: C) wq wx)/\Hd (I (goL G dk.1 (vecI env h nk (bs.take a))).1 wx)/\Hd (EnvR wx eb vs)/\Hd ((goL G dk.1 (vecI env h nk (bs.take a))).2=true)) (fun i _=>(bs.length-intOf i).toNat)
      case atStart=>exact⟨0,rfl,Nat.zero_le _,hd (Ext.refl _ _),hd (by simpa[vecI,goL] using HIk.o),HVk,hd (by simp[vecI,goL])⟩
      case round=>
       obtain⟨a,rfl,ha,HEA,HIA,HVA,HNA⟩:=hrel;rename World=>wa
       by_cases hal:a<bs.length
       ·have ham:(a:Int)<(bs.length:Int):=by omega
        obtain⟨bB,g1,rfl,hg1,hgc1⟩:=HC.o.row.1.at (i:=a) (by have:=HC.o.len;omega);have hg2:wq.cell? ⟨bB,a,none⟩=some (.pointer (some ⟨g1,0,none⟩)):=by have:=hgc1 0 _ rfl;rw[Nat.mul_one,Nat.add_zero] at this;exact this
        have hbn:=HC.o.row.2 bB 0 rfl;have qga:wa.cell? ⟨bB,a,none⟩=some (.pointer (some ⟨g1,0,none⟩)):=HEA.o.held hg2 (HNS.o bB hbn);have qgal:=World.block_lt_of_cell? wa _ qga;simp only at qgal;have qg2:wa.cell? ⟨g,2,none⟩=some (.int .i64 (manyS h)):=HEA.o.held HG2.o (HNS.o g hgn);have qgl2:g<wa.heap.size:=by have:=HEA.o.size;omega
        obtain⟨s1,hs1⟩:∃s1,bs[a]? = some s1:=⟨_,List.getElem?_eq_getElem hal⟩;have hmem1:=List.mem_of_getElem? hs1;have hk31:=HV3.o _ hmem1
        have hst:storesL (bs.take a)=a:=by
         rw[stores_all (fun s hs=>HV3.o s (List.mem_of_mem_take hs)) fun s hs=>HFK.o s (List.mem_of_mem_take hs),List.length_take];omega
        have hkid:=HC.o.kid a g1 s1 hg1 hs1;rw[hst] at hkid;obtain⟨h1,b1⟩:=s1;have HKID:=hd hkid;have HF1:=hd (HFK.o _ hmem1);have HK1:=hd hk31;have HS1:=hd hs1;have HVT:=hd (vecI_take (env:=env) (h:=h) (no:=nk) hs1);clear hkid hmem1 hk31 hst hg1 hgc1 hg2 hs1;generalize hmn:manyS h=mn at *;have HMN:=hd hmn;clear hmn;go_wp2_with fail
        go_loopw [111] (fun i wx=>∃j:Nat,i=.int .i64 j/\j<=mn/\Hd (Ext (eb :: C) wa wx)/\Hd (I (goL G dk.1 (vecI env h nk (bs.take a) ++ rowI env h (nk+a) (.mk h1 b1) j)).1 wx)/\Hd (EnvR wx eb vs)/\Hd ((goL G dk.1 (vecI env h nk (bs.take a) ++ rowI env h (nk+a) (.mk h1 b1) j)).2=true)) (fun i _=>(mn-intOf i).toNat)
        case atStart=>exact⟨0,rfl,Nat.zero_le _,hd (Ext.refl _ _),hd (by rw[rowI_zero,List.append_nil];exact HIA.o),HVA,hd (by rw[rowI_zero,List.append_nil];exact HNA.o)⟩
        case round=>
         obtain⟨j,rfl,hj,HEJ,HIJ,HVJ,HNJ⟩:=hrel;rename World=>wj
         by_cases hjl:j<mn
         ·have hjm:(j:Int)<(mn:Int):=by omega
          have HXJ:Hd (Ext (eb :: C) wq wj):=hd (HEA.o.trans HEJ.o);have q0:wj.cell? ⟨g,0,none⟩=some (.pointer (some ⟨pb,po,none⟩)):=HXJ.o.held qg0 (HNS.o g hgn);have q4:wj.cell? ⟨g,4,none⟩=some (.slice (some ⟨bB,0,none⟩) bs.length bcap):=HXJ.o.held qg4 (HNS.o g hgn);have ql:wj.cell? ⟨pb,po+2,none⟩=some (.int .i64 h.lo):=HXJ.o.held (HC.o.src 2 _ rfl) (HNS.o pb hpn);have qs:wj.cell? ⟨pb,po+4,none⟩=some (.int .i64 h.step):=HXJ.o.held (HC.o.src 4 _ rfl) (HNS.o pb hpn)
          have HQJ:Hd (∀W,Ext [eb] wj W->W.cell? ⟨g,0,none⟩=some (.pointer (some ⟨pb,po,none⟩))/\W.cell? ⟨g,4,none⟩=some (.slice (some ⟨bB,0,none⟩) bs.length bcap)/\g<W.heap.size/\W.cell? ⟨pb,po+2,none⟩=some (.int .i64 h.lo)/\W.cell? ⟨pb,po+4,none⟩=some (.int .i64 h.step)/\pb<W.heap.size):=hd fun W hW=>by
           have hnot1:∀b,b<n->b∉[eb]:=fun b hb hm=>by rw[List.mem_singleton] at hm;omega
           have h1:=hW.size;have h2:=HXJ.o.size;exact⟨hW.held q0 (hnot1 g hgn),hW.held q4 (hnot1 g hgn),by omega,hW.held ql (hnot1 pb hpn),hW.held qs (hnot1 pb hpn),by omega⟩
          have HXV:=hd (valS_bdd HBD.o.1 HBD.o.2.1 HBD.o.2.2.1 (by rw[HMN.o];exact hjl):Bdd (valS h j));have hds:d<8:=by have:=HBD.o.2.2.2;have:=HL.o;omega
          have HEV:=hd (envS_zip (by rw[HD.o];exact HL.o) h j:envS (names.zip vs) h j=_);rw[HENV.o] at HEV;have hvlo:=HBD.o.1;unfold valS at HXV HEV;generalize hlo:h.lo=lo at *;generalize hst:h.step=st at *;clear q0 q4 ql qs;have m1 : -9223372036854775808<=(j:Int)*st:=by have:=HXV.o.1;omega
          have m2:(j:Int)*st<=9223372036854775807:=by have:=HXV.o.2;omega
          have m3 : -9223372036854775808<=lo+(j:Int)*st:=by have:=HXV.o.1;omega
          have m4:lo+(j:Int)*st<=9223372036854775807:=by have:=HXV.o.2;omega
          clear hlo hst;have HSU:=hd (rowI_succ env h (nk+a) (.mk h1 b1) j);have HGW:=hd (fun hf=>goL_row (G:=G) (d:=dk.1) (env:=env) (no:=nk) HS1.o (show j+1<=manyS h by rw[HMN.o];omega) hf);rw[HSU.o,<-List.append_assoc,goL_on HNJ.o,goL_one] at HGW;go_upto_region 23 with fail
          refine rgW 22 [eb] (fEnv eb d (lo+(j:Int)*st)) [(20,sCells wj.heap.size [.int .i64 (lo+(j:Int)*st)]),(21,sEnv eb (d+1) (vs ++ [lo+(j:Int)*st]))] ?_ ?_
          ·refine Stays.cons (sCells.stays fun b j u y hb hu hf=>?_) (Stays.cons (sEnv.stays fun y hy=>?_) Stays.nil)
           ·have h9:b=eb:=hf.1;have:=HVJ.o.lt;omega
           ·rw[<-HD.o,List.getElem?_append_right (Nat.le_refl _),Nat.sub_self] at hy;cases hy
            rfl
          simp only[List.take_succ_cons,List.take_zero,List.drop_succ_cons,List.drop_zero]
          repeat
           refine relAt_det rfl rfl ?_
           apply Exists.intro
           refine⟨fun wr nr hJ=>?_,?_⟩
           ·obtain⟨q0,q4,qgl,ql,qs,qpl⟩:=HQJ.o wr hJ.1;clear hJ;(go_simp;try go_bits)
            first|rfl|exact⟨rfl,rfl⟩
           simp only[Act.put,List.setIfInBounds_toArray,List.set_cons_succ,List.set_cons_zero]
          refine rel_newL (sCells wj.heap.size [.int .i64 (lo+(j:Int)*st)]) rfl rfl (fun wr nr hJ hf=>?_) ?_
          ·refine⟨wr.heap.size,.cells #[.int .i64 (lo+(j:Int)*st)] 3,?_,Ext.size hJ.1,cells_one _ _ _ ((Blk.new wr 3 #[.int .i64 (lo+(j:Int)*st)]).cell 0)⟩
           (go_simp;try go_bits)
           first|rfl|exact⟨rfl,rfl⟩
          intro (b23:Nat);simp only[Act.put,List.setIfInBounds_toArray,List.set_cons_succ,List.set_cons_zero];refine rel_push eb b23 1 d vs (lo+(j:Int)*st) _ _ rfl rfl rfl rfl rfl HD.o hds HXV.o (fun wr nr hJ hf=>?_) ?_
          ·have h23:(sCells wj.heap.size [.int .i64 (lo+(j:Int)*st)]).V b23 wr:=get_after hf 20 (by kernel_rfl);exact⟨HVJ.o.rw hJ.2 fun y hy=>by have:=(List.getElem?_eq_some_iff.1 hy).1;have:=HD.o;omega,h23.2 0 _ rfl⟩
          simp only[Act.put,List.setIfInBounds_toArray,List.set_cons_succ,List.set_cons_zero]
          repeat
           refine relAt_det rfl rfl ?_
           apply Exists.intro
           refine⟨fun wr nr hJ=>?_,?_⟩
           ·skip
            clear hJ;(go_simp;try go_bits)
            first|rfl|exact⟨rfl,rfl⟩
           simp only[Act.put,List.setIfInBounds_toArray,List.set_cons_succ,List.set_cons_zero]
          refine relAt_nil (fun w5 hJ hF=>?_)
          have HV5:Hd (EnvR w5 eb (vs ++ [lo+(j:Int)*st])):=hd (hF 21);have HE5:=hd hJ.1;clear hF hJ;have HXQ:Hd (Ext (eb :: C) wq w5):=hd (HXJ.o.trans (HE5.o.mono fun x hx=>.inl (by rw[List.mem_singleton.1 hx];simp)));obtain⟨pb1,po1,CA1,cc1,BA1,bcap1,bgs1,PA1,pc1,vv1,hC1⟩:=(HKID.o.step HXQ.o (fun x hx=>.inr (HSS.o x hx)) (Nat.le_refl n) (by simp) (fun i g h=>h) fun i g h=>h).open_;have hsto:=StoAt.of hC1 HK1.o HF1.o;obtain⟨_,_,_,_,_,hlg,_⟩:=hC1.val HK1.o;rw[HIV.o] at hsto;have HCA:=hd (HDO.o.call _ ⟨nk+a,h1,envS env h j⟩ g1 (names ++ [h.var]) (vs ++ [lo+(j:Int)*st]) w5 (HDO.o.keep _ _ _ HE5.o HIJ.o) (LastG.go HLT2.o HNJ.o) hsto hlg HV5.o (by simp;have:=HL.o;have:=HD.o;omega) HEV.o);rw[List.length_append,List.length_singleton,HD.o] at HCA;unfold ptV at HCA;clear hsto hlg hC1;go_wp2_with fail
          rw[HDO.o.enters,Oper.upon_enter];refine HCA.o.mono ?_
          rintro e w7 ⟨rfl,hE7,hI7⟩;have HE7:=hd hE7;have HI7:=hd hI7;have HV7:=hd (HV5.o.pop.keep HE7.o HEC.o);clear hE7 hI7 HCA HV5;have HX7:Hd (Ext (eb :: C) wq w7):=hd (HXQ.o.trans (HE7.o.mono fun x hx=>.inl (List.mem_cons_of_mem _ hx)));have HX7a:Hd (Ext (eb :: C) wa w7):=hd ((HEJ.o.trans (HE5.o.mono fun x hx=>.inl (by rw[List.mem_singleton.1 hx];simp))).trans (HE7.o.mono fun x hx=>.inl (List.mem_cons_of_mem _ hx)));cases hok:G (goL G dk.1 (vecI env h nk (bs.take a) ++ rowI env h (nk+a) (.mk h1 b1) j)).1 ⟨nk+a,h1,envS env h j⟩
          ·have hst:=HGW.o hok;have HST:=hd (hst.trans (by rw[show(St.mk h1 b1).h=h1 from rfl,hok]));have HFI:=hd (HGF.o (by rw[HST.o]));clear hok hst;go_wp2_with fail
           go_ret
           exact⟨by rw[HFI.o,HST.o];rfl,HE.o.trans HX7.o,by rw[HFI.o,HST.o];exact HI7.o,HV7.o⟩
          ·have HOK:=hd hok;clear hok;go_wp2_with fail
           go_roundw
           case rel=>exact⟨j+1,by go_num,by omega,HX7a,hd (by rw[HSU.o,<-List.append_assoc,goL_on HNJ.o,goL_one];exact HI7.o),HV7,hd (by rw[HSU.o,<-List.append_assoc,goL_on HNJ.o,goL_one];exact HOK.o)⟩
           case measure=>simp[intOf];omega
         ·have hjm:j=mn:=by omega
          subst hjm;go_wp2_with fail
          go_roundw
          case rel=>
           exact⟨a+1,by go_num,by omega,hd (HEA.o.trans HEJ.o),hd (by rw[HVT.o];exact HIJ.o),HVJ,hd (by rw[HVT.o];exact HNJ.o)⟩
          case measure=>simp[intOf];omega
       ·have hal2:a=bs.length:=by omega
        subst hal2;rw[List.take_length] at HIA HNA;go_wp2_with fail
        go_roundw
        case rel=>exact⟨k+1,by go_num,by omega,hd (HE.o.trans HEA.o),hd (by rw[HGT.o];exact HIA.o),HVA,hd (by rw[HGT.o];exact HNA.o)⟩
        case measure=>simp[intOf];omega
  ·
   have hkm:k=m:=by omega
   subst hkm;have htk:l.take k=l:=List.take_of_length_le (by rw[HN.o];exact Nat.le_refl _);rw[htk] at HIk HK;go_wp2_with fail
   go_ret
   exact⟨by rw[HK.o];rfl,HE.o,HIk.o,HVk.o⟩
theorem walk_any (l:List St):WalkC l:=walk_list l fun s _=>st_ind (P:=fun s=>WalkC s.body) (fun h ks ih=>walk_list ks ih) s
end Go.Proofs.YtfppibmloloakaaGreatDoor
