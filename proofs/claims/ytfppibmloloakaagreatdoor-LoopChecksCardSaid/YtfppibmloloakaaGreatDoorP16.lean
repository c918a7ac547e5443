import Derived.Test.YtfppibmloloakaaGreatDoorP15
import Derived.Test.YtfppibmloloakaaGreatDoorP05
import Derived.Test.YtfppibmloloakaaGreatDoorP17
namespace Go.Proofs.YtfppibmloloakaaGreatDoor
open Go.RowKit Go.Proofs.Tryz
set_option linter.all false
theorem seq_apart {w w':World}{A:Option Addr}{l:List ByteArray}{cb:Nat}{t:TypeId}{bA:Option Addr}{nb bc:Nat}{y:Value}(h:SeqIn w A 1 sC l)(hB:Blk w cb t #[.slice bA nb bc,y])(hE:Ext [cb] w w'):SeqIn w' A 1 sC l:=by
 obtain⟨h0,hx⟩:=h;rcases hx with hx|⟨b,rfl,hc⟩
 ·subst hx;exact SeqIn.nil _ _ _ _
 ·by_cases he:l=[]
  ·subst he;exact SeqIn.nil _ _ _ _
  ·refine SeqIn.ext ⟨h0,.inr ⟨b,rfl,hc⟩⟩ hE fun x hx b' o' hb'=>?_
   cases hb'
   rw[List.mem_singleton.1 hx];rintro rfl;obtain⟨x,hx⟩:∃x,l[0]? = some x:=⟨_,List.getElem?_eq_getElem (List.length_pos_iff.2 he)⟩;have h1:=hc 0 x hx 0 _ rfl;rw[hB.cell] at h1;cases h1
def sCl (B:Nat)(l:List Value):Spec:=⟨Value,.slice none 0 0,fun v=>v,fun v w=>Own1 w B 9 v l⟩
def sStr (s:ByteArray):Spec:=⟨Nat,0,fun b=>.slice (some ⟨b,0,none⟩) 1 1,fun b w=>w.cell? ⟨b,0,none⟩=some (.string s)⟩
theorem sCl.stays {B:Nat}{l:List Value}:∀y w w',RH [] w w'->(sCl B l).V y w->(sCl B l).V y w':=fun y w w' h k=>own1_ext k h.1 (by simp)
theorem sStr.stays {s:ByteArray}:∀y w w',RH [] w w'->(sStr s).V y w->(sStr s).V y w':=fun y w w' h k=>h.1.held k (List.not_mem_nil)
def StmtsP (nb:Nat)(vars:List ByteArray)(before:Nat)(l:List St)(cb:Nat)(bA:Option Addr)(bc:Nat)(w:World)(e:Ending)(w':World):Prop:=
 ∃bf:Nat,e=.returned (.int .i64 (stEL nb vars before l))/\Ext [cb] w w'/\Blk w' cb 238 #[.slice bA nb bc,.int .i64 bf]/\bf<=3000/\(stEL nb vars before l=0->bf=before+cntL l)
def StmtsC (l:List St):Prop:=∀(A:Option Addr) (n cap:Nat) (vars:List ByteArray) (VA:Option Addr) (vn vc:Nat) (w0 w:World) (cb:Nat) (bA:Option Addr) (nb bc before:Nat),SeqIn w0 A 21 stC l->(∀s∈l,StIn w0 s)->l.length=n->Ext [] w0 w->w0.heap.size<=cb->
 SeqIn w VA 1 sC vars->vars.length=vn->(vn=0->VA=none/\vc=0)->Blk w cb 238 #[.slice bA nb bc,.int .i64 before]->nb<=1000000->before<=3000->
  Calls Tryz.prog 146 #[.pointer (some ⟨cb,0,none⟩),.slice A n cap,.slice VA vn vc] w (StmtsP nb vars before l cb bA bc w)
theorem stE_bad {nb:Nat}{vars:List ByteArray}{before:Nat}{h:SH}{b:List St}(hx:headE vars nb before h b≠0):stE nb vars before (.mk h b)=headE vars nb before h b:=by rw[stE,if_neg hx]
theorem stE_good {nb:Nat}{vars:List ByteArray}{before:Nat}{h:SH}{b:List St}(hx:headE vars nb before h b=0):stE nb vars before (.mk h b)=stEL nb (innerV vars h) (before+1) b:=by rw[stE,if_pos hx]
set_option maxHeartbeats 8000000 in
set_option maxRecDepth 100000 in
theorem stmts_list (l:List St)(ih:∀s∈l,StmtsC s.body):StmtsC l:=by
 intro A n cap vars VA vn vc w0 w cb bA nb bc before hR hS hn hE0 hcb hV hvn hvz hC hnb hbf;have hn9:n<=1000000:=by have:=hR.1;omega
 have HI:=hd ih;have HR:=hd hR;have HS:=hd hS;have HN:=hd hn;have HE0:=hd hE0;have HV:=hd hV;have HVN:=hd hvn;have HVZ:=hd hvz;have HC:=hd hC;clear ih hR hS hn hE0 hV hvn hvz hC;go_enter Tryz.func146,Tryz.ntmps146
 go_wp2_with fail
 go_loopw [14] (fun i wr=>∃k:Nat,i=.int .i64 k/\k<=n/\Hd (Ext [cb] w wr)/\Hd (Blk wr cb 238 #[.slice bA nb bc,.int .i64 (before+cntL (l.take k):Nat)]/\before+cntL (l.take k)<=3000)/\Hd (∀(j:Nat) (s:St),j<k->l[j]? = some s->stE nb vars (before+cntL (l.take j)) s=0)) (fun i _=>(n-intOf i).toNat)
 case atStart=>exact⟨0,rfl,Nat.zero_le _,hd (Ext.refl _ _),hd ⟨by simpa[cntL] using HC.o,by simpa[cntL] using hbf⟩,hd fun j x hj=>absurd hj (by omega)⟩
 case round=>
  obtain⟨k,rfl,hk,HE,HBk,HN2⟩:=hrel;rename World=>wq
  by_cases hlt:k<n
  ·have HE2:=hd (keep0 HE0.o HE.o (by simpa using hcb));have HVq:=hd (seq_apart HV.o HC.o HE.o);obtain⟨b,x,rfl,hx,hc⟩:=(HR.o.keep HE2.o).at (i:=k) (by have:=HN.o;omega);obtain⟨h,bs⟩:=x;have HXK:=hd hx;have hmem:=List.mem_of_getElem? hx;have HXS:=hd (HS.o _ hmem);have HXI:=hd (HI.o _ hmem);have HW:=hd (fun j v hv=>hc j v hv:∀(j:Nat) (v:Value),(stArr h bs.length h.val.h h.val.ks.length).toList[j]? = some v->wq.cell? ⟨b,k*21+j,none⟩=some v);have HW2:=hd (Blk.new wq 43 (stArr h bs.length h.val.h h.val.ks.length)).wide;have HB0:=hd (Blk.new wq 43 (stArr h bs.length h.val.h h.val.ks.length));have HEx:=hd ((Ext.refl [] wq).alloc (.cells (stArr h bs.length h.val.h h.val.ks.length) 43));obtain⟨a0,a1,a2,a3,a4,a5,a6,a7,-⟩:=stArr_get h bs.length h.val.h h.val.ks.length;have HHD:=hd (head_any h bs vars VA vn vc (wq.alloc (.cells (stArr h bs.length h.val.h h.val.ks.length) 43)) cb bA nb bc (before+cntL (l.take k)) (HXS.o.keep (HE2.o.alloc _)) (HVq.o.keep HEx.o) HVN.o (HBk.o.1.alloc _) hnb HBk.o.2);unfold stHV at HHD;have HSZ:=hd (show(Tryz.prog.info? 43).map (·.size)=some (stArr h bs.length h.val.h h.val.ks.length).size from infoSt);have HZS:=hd (show zSt.size=(stArr h bs.length h.val.h h.val.ks.length).size from rfl);have HON:=hd (stArr_one h bs.length h.val.h h.val.ks.length);clear hx hc hmem;generalize stArr h bs.length h.val.h h.val.ks.length=arr at *
   go_wp2_with (first
    | refine wpList_load_wide rfl 43 _ rfl b (k*21) rfl arr HW.o _ Tryz.underlying43 rfl HSZ.o ?_
    | refine wpList_make_wide rfl rfl 43 _ _ rfl rfl zSt (zSt_run _) arr rfl rfl HSZ.o HZS.o HON.o ?_
    | refine wpList_load_wide rfl 43 _ rfl wq.heap.size 0 rfl arr HW2.o _ Tryz.underlying43 rfl HSZ.o ?_)
   refine HHD.o.mono ?_
   rintro r w1 ⟨rfl,hE⟩;have hwq:=hE.size;have HE1:=hd ((HE.o.alloc (.cells arr 43)).trans hE.nil);have HB1:=hd (HB0.o.ext hE (by simp));have HC1:=hd ((HBk.o.1.alloc (.cells arr 43)).ext hE (by simp));have HX1:=hd (HEx.o.trans hE);have hcq:=HBk.o.1.lt;have hbq:=HBk.o.2;generalize hs1:wq.heap.size=s1 at *;clear hE HW HW2 HB0 HEx HHD HZS HON;generalize hP:before+cntL (l.take k)=P at *;have HP:=hd hP;clear hP;generalize hax:headE vars nb P h bs=ax;have HAX:=hd hax;clear hax;have qc:=HC1.o.cell;have qf:=HC1.o.frozen;have qcl:=HC1.o.lt;by_cases ha0:ax=0
   ·subst ha0;have hP3:=(headE_spec HAX.o).1;have HC2:=hd (HC1.o.set_' 1 (.int .i64 (P+1)) _ rfl);have HE2':=hd (Ext.setAt (b:=cb) (i:=1) (u:=.int .i64 (P+1)) (.inl (by simp)) HE1.o);have HB2:=hd (HB1.o.far (p:=⟨cb,1,none⟩) (by simp;omega) (.int .i64 (P+1)));have HX2:=hd (Ext.setAt (b:=cb) (i:=1) (u:=.int .i64 (P+1)) (.inl (by simp)) (HX1.o.nil:Ext [cb] wq w1));have HC2:Hd (Blk (w1.setCell ⟨cb,1,none⟩ (.int .i64 (P+1))) cb 238 #[.slice bA nb bc,.int .i64 (P+1:Nat)]):=hd (HC1.o.set_' 1 (.int .i64 (P+1)) _ rfl);have HX1s:=HX1.o.size;have HEs:=HE1.o.size;clear HBk HX1;go_upto_region 8 with fail
    generalize World.setCell _ _ _=w2 at *;clear qc qf qcl HC1 HE1 HB1;have qb:=HB2.o.cell;have qbl:=HB2.o.lt;have HV2:=hd (seq_apart HV.o HC.o HE2'.o);go_upto_if 35 with fail
    go_cut [10] (fun s wx=>∃A' c',s=.slice A' (innerV vars h).length c'/\Hd ((innerV vars h).length=0->A'=none/\c'=0)/\Hd (SeqIn wx A' 1 sC (innerV vars h))/\Hd (Ext [] w2 wx))
    case first=>
     by_cases hk1:h.k=1
     ·have HIV:=hd (show innerV vars h=vars ++ [h.var] by unfold innerV;rw[if_pos hk1]);obtain⟨i0,hi0,hz0,hz1,hz2⟩:=strInfo;have hvl:vars.length<=1000000:=HV2.o.1;have HBX:=HB2;go_wp2_with fail
      clear qb qbl;refine rgH 5 [(1,sCl w2.heap.size (vars.map sV)),(4,sStr h.var)] ?_ ?_
      ·repeat(first|exact Stays.nil|refine Stays.cons sCl.stays ?_|refine Stays.cons sStr.stays ?_)
      simp only[List.take_succ_cons,List.take_zero,List.drop_succ_cons,List.drop_zero];refine relAt_det rfl rfl ?_
      apply Exists.intro
      refine⟨fun wr nr hJ=>?_,?_⟩
      ·clear hJ;(go_simp;try go_bits)
       first|rfl|exact⟨rfl,rfl⟩
      simp only[Act.put,List.setIfInBounds_toArray,List.set_cons_succ,List.set_cons_zero];refine rel_ext (sCl w2.heap.size (vars.map sV)) rfl rfl ?_ ?_
      ·apply Exists.intro
       apply Exists.intro
       refine⟨fun wr=>?_,fun wr nr hJ hf=>?_⟩
       ·go_simp
        first|exact⟨rfl,rfl⟩|rfl
       ·refine(sClone_any VA vn vc vars wr (HV2.o.keep hJ.1) HVN.o HVZ.o).mono ?_
        rintro e w' ⟨v,rfl,hE,hO⟩;exact⟨v,rfl,own1_base hO hJ.1.size,hE⟩
      intro (v:Value);simp only[Act.put,List.setIfInBounds_toArray,List.set_cons_succ,List.set_cons_zero]
      repeat
       refine relAt_det rfl rfl ?_
       apply Exists.intro
       refine⟨fun wr nr hJ=>?_,?_⟩
       ·have qx:=(HBX.o.ext hJ.1 (by simp)).cell;have qxl:=(HBX.o.ext hJ.1 (by simp)).lt;clear hJ;(go_simp;try go_bits)
        first|rfl|exact⟨rfl,rfl⟩
       simp only[Act.put,List.setIfInBounds_toArray,List.set_cons_succ,List.set_cons_zero]
      refine rel_new (sStr h.var) rfl rfl (fun wr nr hJ hf=>?_) ?_
      ·refine⟨wr.heap.size,.cells #[.string h.var] 9,?_,(Blk.new wr 9 #[.string h.var]).cell 0⟩
       (go_simp;try go_bits)
       first|rfl|exact⟨rfl,rfl⟩
      intro (g:Nat);simp only[Act.put,List.setIfInBounds_toArray,List.set_cons_succ,List.set_cons_zero];refine relAt_nil (fun w9 hJ hF=>?_)
      have HO:Hd (Own1 w9 w2.heap.size 9 v (vars.map sV)):=hd (hF 1);have HG:Hd (w9.cell? ⟨g,0,none⟩=some (.string h.var)):=hd (hF 4);have HE9:=hd hJ.1;have hz9:=hJ.1.size;clear hF hJ
      go_wp2_with (
       refine wpList_append_lies _ rfl _ _ 133 rfl w2.heap.size 9 i0 _ 1 16 Tryz.underlying133 hi0 hz0 hz1 hz2 rfl (by decide) _ vn (vars.map sV) rfl (by have:=HO.o;unfold Own1 at this;rw[List.length_map,HVN.o] at this;exact this) ⟨g,0,none⟩ 1 1 [.string h.var] rfl rfl ?c1 ?c2 (by omega) ?c3 ?c4 ?c5 _ rfl ?_
       case c1=>exact new_one _ _ _ HG.o
       case c2=>intro u hu;rw[List.mem_singleton.1 hu];rfl
       case c3=>unfold maxLen;have:=HVN.o;omega
       case c4=>have:=HVN.o;omega
       case c5=>exact hz9
       intro g8 c8 w8 ho8 hg8 hi8 ha8;have HX8:=hd (And.intro ho8 hg8);clear ho8 hg8 hi8 ha8)
      go_meet
      have hge:(vars ++ [h.var]).length=vn+1:=by simp[HVN.o]
      have hown:Own1 w8 w2.heap.size 9 (.slice (some ⟨g8,0,none⟩) (vn+1) c8) ((vars ++ [h.var]).map sV):=by
       have:=HX8.o.1;unfold Own1;rw[List.length_map,hge,List.map_append];exact this
      exact⟨some ⟨g8,0,none⟩,c8,by rw[HIV.o,hge],by rw[HIV.o,hge];exact hd fun h=>by omega,by rw[HIV.o];exact hd (own_seq hown (by have:=(headE_spec HAX.o).2.1;have:=HVN.o;simp;omega)),hd (HE9.o.grown HX8.o.2 fun q hq=>.inr (own1_blk HO.o hq).1)⟩
     ·have HIV:=hd (show innerV vars h=vars by unfold innerV;rw[if_neg hk1]);have hk1':(h.k==1)=false:=by simpa using hk1
      go_wp2_with fail
      go_meet
      exact⟨VA,vc,by rw[HIV.o,HVN.o],by rw[HIV.o,HVN.o];exact HVZ,by rw[HIV.o];exact HV2,hd (Ext.refl _ _)⟩
    case rest=>
     obtain⟨A',c',rfl,HZ',HV',HE'⟩:=hcut;rename World=>w3
     have HB3:=hd (HB2.o.ext HE'.o (by simp));have HC3:=hd (HC2.o.ext HE'.o (by simp));have HE3:=hd (HE2'.o.trans HE'.o.nil);have HE03:=hd (keep0 HE0.o HE3.o (by simpa using hcb));clear qb qbl HB2 HC2 HE2' HX2 HE';have qb:=HB3.o.cell;have qbl:=HB3.o.lt;have hXA:=hd HXS.o.all;have HCALL:=hd (HXI.o h.A bs.length h.cap (innerV vars h) A' (innerV vars h).length c' w0 w3 cb bA nb bc (P+1) hXA.o.2.2.2.2.2.2.1 hXA.o.2.2.2.2.2.2.2 rfl HE03.o hcb HV'.o rfl HZ'.o HC3.o hnb (by omega));go_wp2_with fail
     refine HCALL.o.mono ?_
     rintro r w4 ⟨bf,rfl,hE,hB,hbf4,hok⟩;have HE4:=hd (HE3.o.trans hE);have HB4:=hd hB;have HOK:=hd hok;clear hE hB hok HCALL qb qbl;generalize hay:stEL nb (innerV vars h) (P+1) (St.mk h bs).body=ay at *;have HAY:=hd (show stEL nb (innerV vars h) (P+1) bs=ay from hay);clear hay;by_cases ha1:ay=0
     ·subst ha1;have HST:=hd (show stE nb vars P (.mk h bs)=0 from(stE_good HAX.o).trans HAY.o)
      have hbe:bf=before+cntL (l.take (k+1)):=by
       rw[HOK.o rfl,cntL_take HXK.o,<-Nat.add_assoc,HP.o];simp only[cntS,St.body];omega
      go_wp2_with fail
      go_roundw
      case rel=>
       refine⟨k+1,by go_num,by omega,HE4,hd ⟨by rw[<-hbe];exact HB4.o,by omega⟩,hd fun j e hj he=>?_⟩
       rcases Nat.lt_or_ge j k with h1|h1
       ·exact HN2.o j e h1 he
       ·have:j=k:=by omega
        subst this;have:=HXK.o.symm.trans he;cases this
        rw[HP.o];exact HST.o
      case measure=>simp[intOf];omega
     ·have HST:=hd (show stE nb vars P (.mk h bs)=ay from(stE_good HAX.o).trans HAY.o);have HF:=hd (show stEL nb vars before l=ay from(stEL_at HXK.o HN2.o (by rw[HP.o,HST.o];exact ha1)).trans (by rw[HP.o,HST.o]));have ha1':(ay==0)=false:=by simpa using ha1
      go_wp2_with fail
      go_ret
      exact⟨bf,ret_int HF.o.symm,HE4.o,HB4.o,hbf4,fun h=>absurd (HF.o.symm.trans h) ha1⟩
   ·have HF:=hd (show stEL nb vars before l=ax from(stEL_at HXK.o HN2.o (by rw[HP.o,stE_bad (by rw[HAX.o];exact ha0),HAX.o];exact ha0)).trans (by rw[HP.o,stE_bad (by rw[HAX.o];exact ha0),HAX.o]));have ha0':(ax==0)=false:=by simpa using ha0
    go_wp2_with fail
    go_ret
    exact⟨P,ret_int HF.o.symm,HE1.o,HC1.o,hbq,fun h=>absurd (HF.o.symm.trans h) ha0⟩
  ·have hkn:k=n:=by omega
   subst hkn;have HF:=hd (show stEL nb vars before l=0 from stEL_ok HN.o fun i s hi hs=>HN2.o i s (by omega) hs);have HT:Hd (l.take k=l):=hd (List.take_of_length_le (by have:=HN.o;omega));go_wp2_with fail
   go_ret
   refine⟨before+cntL (l.take k),ret_int HF.o.symm,HE.o,HBk.o.1,HBk.o.2,fun _=>by rw[HT.o]⟩
theorem stmts_any:∀s:St,StmtsC s.body:=st_ind fun h b ih=>stmts_list b ih
structure Pg where
 A:Option Addr
 cap:Nat
 bs:List Bf
 B:Option Addr
 bcap:Nat
 body:List St
def pgV (p:Pg):Value:=.agg #[.slice p.A p.bs.length p.cap,.slice p.B p.body.length p.bcap]
structure PgIn (w:World)(p:Pg):Prop where
 bufs:SeqIn w p.A 4 bfC p.bs
 each:∀b∈p.bs,BfIn w b
 cap:p.bs.length<=p.cap/\p.cap<=9223372036854775807
 body:SeqIn w p.B 21 stC p.body
 stmt:∀s∈p.body,StIn w s
theorem PgIn.keep {w w':World}{p:Pg}(h:PgIn w p)(hE:Ext [] w w'):PgIn w' p:=⟨h.bufs.keep hE,fun b hb=>(h.each b hb).keep hE,h.cap,h.body.keep hE,fun s hs=>(h.stmt s hs).keep hE⟩
theorem stmts_all (l:List St):StmtsC l:=stmts_list l fun s _=>stmts_any s
set_option maxHeartbeats 2000000 in
set_option maxRecDepth 100000 in
theorem formed_any (p:Pg)(w:World)(h:PgIn w p):Calls Tryz.prog 97 #[pgV p] w (ErrP (formedE p.bs p.body) w):=by
 have HP:=hd h;have HV:Hd (formedE p.bs p.body=if bufsE p.bs=0 then stEL p.bs.length [] 0 p.body else bufsE p.bs):=hd rfl;have hn9:=h.bufs.1;obtain⟨A,cap,bs,B,bcap,body⟩:=p;dsimp only[pgV] at *;clear h;have HE0:=hd ((Ext.refl [] w).alloc (.cells #[.slice A bs.length cap,.slice B body.length bcap] 29));have HB0:=hd (Blk.new w 29 #[.slice A bs.length cap,.slice B body.length bcap]);have HBF:=hd (fun W=>buffers_any A bs.length cap bs W);have HST:=hd (stmts_all body B body.length bcap [] none 0 0);generalize formedE bs body=R at *;generalize hn:bs.length=n at *;have HN:=hd hn;clear hn;generalize bufsE bs=bx at *;go_enter Tryz.func97,Tryz.ntmps97
 go_wp2_with fail
 generalize World.alloc w _=w1 at *;generalize hs:w.heap.size=s at *;have hP:=HP.o.keep HE0.o;refine(HBF.o w1 hP.bufs hP.each (by first|rfl|trivial) (by have:=hP.cap;simp only at this;rw[HN.o] at this;exact this)).mono ?_
 rintro r w2 ⟨rfl,hE⟩;have HE2:=hd (HE0.o.trans hE);have HB2:=hd (HB0.o.ext hE (by simp));clear hE hP;have q2:=HB2.o.cell;have ql:=HB2.o.lt;by_cases hb0:bx=0
 ·subst hb0;have HV2:=hd (HV.o.trans (if_pos rfl));have HE3:=hd (HE2.o.alloc (.cells #[.slice A n cap,.int .i64 0] 238));have HC3:=hd (Blk.new w2 238 #[.slice A n cap,.int .i64 0]);have hz2:=HE2.o.size;have hP:=HP.o;have HCALL:=hd (HST.o w (w2.alloc (.cells #[.slice A n cap,.int .i64 0] 238)) w2.heap.size A n cap 0 hP.body hP.stmt (by first|rfl|trivial) HE3.o (by omega) (SeqIn.nil _ _ _ _) rfl (by first|exact fun _=>⟨rfl,rfl⟩|simp) HC3.o (by omega) (by omega));clear hP;go_wp2_with fail
  refine HCALL.o.mono ?_
  rintro r w4 ⟨bf,rfl,hE,-,-,-⟩;have HE4:=hd (HE3.o.step hE (fun x hx=>.inr (by rw[List.mem_singleton.1 hx];omega)));clear hE;go_wp2_with fail
  go_ret
  exact⟨ret_int HV2.o.symm,HE4.o⟩
 ·have HF:=hd (HV.o.trans (if_neg hb0));have hb':(bx==0)=false:=by simpa using hb0
  go_wp2_with fail
  go_ret
  exact⟨ret_int HF.o.symm,HE2.o⟩
end Go.Proofs.YtfppibmloloakaaGreatDoor
