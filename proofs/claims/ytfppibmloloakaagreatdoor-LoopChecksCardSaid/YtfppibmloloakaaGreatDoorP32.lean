import Derived.Test.YtfppibmloloakaaGreatDoorP31
import Derived.Test.YtfppibmloloakaaGreatDoorP16
import Derived.ArgAppend
namespace Go.Proofs.YtfppibmloloakaaGreatDoor
open Go.RowKit Go.Proofs.Tryz
set_option linter.all false
mutual
def ptS:St->Prop|.mk h b=>parts h.val<=1000000/\ptL b
def ptL:List St->Prop | []=>True|s :: l=>ptS s/\ptL l
end
theorem ptL_mem:∀{l:List St},ptL l->∀s∈l,ptS s
 | [],_,_,hs=>by cases hs
 | a :: l,h,s,hs=>by
  unfold ptL at h;rcases List.mem_cons.1 hs with rfl|h1
  ·exact h.1
  ·exact ptL_mem h.2 s h1
theorem ptS_iff {h:SH}{b:List St}(hp:ptS (.mk h b)):parts h.val<=1000000/\ptL b:=by unfold ptS at hp;exact hp
set_option maxRecDepth 100000 in
theorem clip_any (VA:Option Addr)(vn vc:Nat)(w:World)(hn:VA=none->vn=0/\vc=0)(hc:vn<=vc)(hb:∀a,VA=some a->∃b,a=⟨b,0,none⟩):Calls Tryz.prog 83 #[.slice VA vn vc] w fun e w'=>e=.returned (.slice VA vn vn)/\Ext [] w w':=by
 cases VA with
 | none=>
  obtain⟨rfl,rfl⟩:=hn rfl;clear hn hb;go_enter Tryz.func83,Tryz.ntmps83
  go_wp2_with fail
  go_ret
  exact⟨rfl,Ext.refl _ _⟩
 | some a=>
  obtain⟨b,rfl⟩:=hb a rfl;clear hn hb;go_enter Tryz.func83,Tryz.ntmps83
  go_wp2_with fail
  go_ret
  exact⟨rfl,Ext.refl _ _⟩
theorem seq_apartR {w w':World}{A:Option Addr}{l:List ByteArray}{cb:Nat}{t:TypeId}{bA:Option Addr}{nb bc:Nat}{y z:Value}(h:SeqIn w A 1 sC l)(hB:Blk w cb t #[.slice bA nb bc,y,z])(hE:Ext [cb] w w'):SeqIn w' A 1 sC l:=by
 obtain⟨h0,hx⟩:=h;rcases hx with hx|⟨b,rfl,hc⟩
 ·subst hx;exact SeqIn.nil _ _ _ _
 ·by_cases he:l=[]
  ·subst he;exact SeqIn.nil _ _ _ _
  ·refine SeqIn.ext ⟨h0,.inr ⟨b,rfl,hc⟩⟩ hE fun x hx b' o' hb'=>?_
   cases hb'
   rw[List.mem_singleton.1 hx];rintro rfl;obtain⟨x,hx⟩:∃x,l[0]? = some x:=⟨_,List.getElem?_eq_getElem (List.length_pos_iff.2 he)⟩;have h1:=hc 0 x hx 0 _ rfl;rw[hB.cell] at h1;cases h1
theorem seq_lies {w:World}{A:Option Addr}{l:List ByteArray}(h:SeqIn w A 1 sC l):∀b,A=some b->∀(j:Nat) u,(l.map sV)[j]? = some u->w.cell? (b.add j)=some u:=by
 obtain⟨h0,hx⟩:=h;intro b hb j u hu;rcases hx with hx|⟨g,rfl,hc⟩
 ·subst hx;cases hu
 ·cases hb
  rw[Addr.add_lit];rw[List.getElem?_map] at hu;obtain⟨x,hx,rfl⟩:=Option.map_eq_some_iff.1 hu;have:=hc j x hx 0 _ rfl;simpa[sV] using this
def VzP (A:Option Addr)(n c:Nat):Prop:=(A=none->n=0/\c=0)/\n<=c/\∀a,A=some a->∃b,a=⟨b,0,none⟩
theorem vzP_some {g n c:Nat}(h:n<=c):VzP (some ⟨g,0,none⟩) n c:=⟨fun h=>(by cases h),h,fun a ha=>(by cases ha;exact⟨_,rfl⟩)⟩
def BodyP (nb:Nat)(vars:List ByteArray)(before:Nat)(l:List St)(cb:Nat)(bA:Option Addr)(bc:Nat)(v1:Value)(w:World)(e:Ending)(w':World):Prop:=
 ∃bf:Nat,e=.returned (.int .i64 (stEL nb vars before l))/\Ext [cb] w w'/\Blk w' cb 78 #[.slice bA nb bc,v1,.int .i64 bf]/\bf<=3000/\(stEL nb vars before l=0->bf=before+cntL l)
def BodyC (l:List St):Prop:=∀(A:Option Addr) (n cap:Nat) (vars:List ByteArray) (VA:Option Addr) (vn vc:Nat) (w0 w:World) (cb:Nat) (bA:Option Addr) (nb bc:Nat) (v1:Value) (before:Nat),SeqIn w0 A 21 stC l->(∀s∈l,StIn w0 s)->ptL l->l.length=n->Ext [] w0 w->w0.heap.size<=cb->
 SeqIn w VA 1 sC vars->vars.length=vn->VzP VA vn vc->Blk w cb 78 #[.slice bA nb bc,v1,.int .i64 before]->nb<=1000000->before<=3000->
  Calls Tryz.prog 35 #[.pointer (some ⟨cb,0,none⟩),.slice A n cap,.slice VA vn vc] w (BodyP nb vars before l cb bA bc v1 w)
set_option maxHeartbeats 8000000 in
set_option maxRecDepth 100000 in
theorem body_list (l:List St)(ih:∀s∈l,BodyC s.body):BodyC l:=by
 intro A n cap vars VA vn vc w0 w cb bA nb bc v1 before hR hS hpt hn hE0 hcb hV hvn hvz hC hnb hbf;have hn9:n<=1000000:=by have:=hR.1;omega
 have HI:=hd ih;have HR:=hd hR;have HS:=hd hS;have HPT:=hd (fun h b hs=>ptS_iff (ptL_mem hpt _ hs):∀h b,St.mk h b∈l->parts h.val<=1000000/\ptL b);have HN:=hd hn;have HE0:=hd hE0;have HV:=hd hV;have HVN:=hd hvn;have HVZ:=hd hvz;have HC:=hd hC;clear ih hR hS hpt hn hE0 hV hvn hvz hC;go_enter Tryz.func35,Tryz.ntmps35
 go_wp2_with fail
 go_loopw [14] (fun i wr=>∃k:Nat,i=.int .i64 k/\k<=n/\Hd (Ext [cb] w wr)/\Hd (Blk wr cb 78 #[.slice bA nb bc,v1,.int .i64 (before+cntL (l.take k):Nat)]/\before+cntL (l.take k)<=3000)/\Hd (∀(j:Nat) (s:St),j<k->l[j]? = some s->stE nb vars (before+cntL (l.take j)) s=0)) (fun i _=>(n-intOf i).toNat)
 case atStart=>exact⟨0,rfl,Nat.zero_le _,hd (Ext.refl _ _),hd ⟨by simpa[cntL] using HC.o,by simpa[cntL] using hbf⟩,hd fun j x hj=>absurd hj (by omega)⟩
 case round=>
  obtain⟨k,rfl,hk,HE,HBk,HN2⟩:=hrel;rename World=>wq
  by_cases hlt:k<n
  ·have HE2:=hd (keep0 HE0.o HE.o (by simpa using hcb));have HVq:=hd (seq_apartR HV.o HC.o HE.o);obtain⟨b,x,rfl,hx,hc⟩:=(HR.o.keep HE2.o).at (i:=k) (by have:=HN.o;omega);obtain⟨h,bs⟩:=x;have HXK:=hd hx;have hmem:=List.mem_of_getElem? hx;have HXS:=hd (HS.o _ hmem);have HXI:=hd (HI.o _ hmem);have HW:=hd (fun j v hv=>hc j v hv:∀(j:Nat) (v:Value),(stArr h bs.length h.val.h h.val.ks.length).toList[j]? = some v->wq.cell? ⟨b,k*21+j,none⟩=some v);have HW2:=hd (Blk.new wq 43 (stArr h bs.length h.val.h h.val.ks.length)).wide;have HB0:=hd (Blk.new wq 43 (stArr h bs.length h.val.h h.val.ks.length));have HEx:=hd ((Ext.refl [] wq).alloc (.cells (stArr h bs.length h.val.h h.val.ks.length) 43));obtain⟨a0,a1,a2,a3,a4,a5,a6,a7,-⟩:=stArr_get h bs.length h.val.h h.val.ks.length;have HSF:=hd (fun W=>stmtForm_any h bs.length W);have HFD:=hd (fun W (hW:Ext [] w0 W) (hV':SeqIn W VA 1 sC vars) (bf:Nat) (hC':Blk W cb 78 #[.slice bA nb bc,v1,.int .i64 bf]) hk1=>fieldsR_any h bs vars VA vn vc W cb bA nb bc v1 bf (HXS.o.keep hW) (HPT.o _ _ hmem).1 hV' HVN.o hC' hnb hk1);have HPB:=hd (HPT.o _ _ hmem).2;unfold stHV at HSF HFD;have HSZ:=hd (show(Tryz.prog.info? 43).map (·.size)=some (stArr h bs.length h.val.h h.val.ks.length).size from infoSt);have HZS:=hd (show zSt.size=(stArr h bs.length h.val.h h.val.ks.length).size from rfl);have HON:=hd (stArr_one h bs.length h.val.h h.val.ks.length);have HWS:=hd (fun W s0 (hW:Blk W s0 43 (stArr h bs.length h.val.h h.val.ks.length))=>hW.wide);clear hx hc hmem;generalize stArr h bs.length h.val.h h.val.ks.length=arr at *
   go_upto_region 4 with(first
    | refine wpList_load_wide rfl 43 _ rfl b (k*21) rfl arr HW.o _ Tryz.underlying43 rfl HSZ.o ?_
    | refine wpList_make_wide rfl rfl 43 _ _ rfl rfl zSt (zSt_run _) arr rfl rfl HSZ.o HZS.o HON.o ?_)
   simp only[Act.put,List.setIfInBounds_toArray,List.set_cons_succ,List.set_cons_zero];have HE1:=hd (HE.o.alloc (.cells arr 43));have HB1:=hd HB0.o;have HC1:=hd (HBk.o.1.alloc (.cells arr 43));have HX1:=hd HEx.o;have hcq:=HBk.o.1.lt;have hbq:=HBk.o.2;generalize World.alloc wq _=w1 at *;generalize hs1:wq.heap.size=s1 at *;clear HW HW2 HB0 HEx HZS HON;generalize hP:before+cntL (l.take k)=P at *;have HP:=hd hP;clear hP;have HEAD:=hd (fun(a:Int) (h0:a≠0) (hh:headE vars nb P h bs=a)=>(stEL_at HXK.o HN2.o (by rw[HP.o,stE_bad (by rw[hh];exact h0),hh];exact h0)).trans (by rw[HP.o,stE_bad (by rw[hh];exact h0),hh]):∀(a:Int),a≠0->headE vars nb P h bs=a->stEL nb vars before l=a);have qc:=HC1.o.cell;have qf:=HC1.o.frozen;have qcl:=HC1.o.lt;have qb:=HB1.o.cell;have qbl:=HB1.o.lt;go_cut [18] (fun s wx=>s=.bool (decide (3000<=P\/h.k=1/\8<=vn))/\wx=w1)
   case first=>
    go_wp2_with fail
    all_goals
     go_meet
     refine⟨congrArg Value.bool ?_,rfl⟩
     first|exact decide_eq_decide.2 (by omega)|exact(decide_eq_true (by omega)).symm|exact(decide_eq_false (by omega)).symm|(rw[Bool.eq_iff_iff];simp only[Bool.or_eq_true,decide_eq_true_eq];omega)|(simp_all;done)|(simp_all;omega)
   case rest=>
   obtain⟨rfl,rfl⟩:=hcut;by_cases hq1:3000<=P\/h.k=1/\8<=vn
   ·have HF:=hd (HEAD.o 2 (by omega) (headE_1 (by rw[HVN.o];exact hq1)));rw[decide_eq_true hq1];clear hq1;go_wp2_with fail
    go_ret
    exact⟨P,ret_int HF.o.symm,HE1.o,HC1.o,hbq,fun h=>by rw[HF.o] at h;cases h⟩
   have HQ1:=hd (show ¬(3000<=P\/h.k=1/\8<=vars.length) by rw[HVN.o];exact hq1);have hP3:P<3000:=by omega
   rw[decide_eq_false hq1];clear hq1;go_wp2_with fail
   refine(within_any _ _ _ _).mono ?_
   rintro r w' ⟨rfl,rfl⟩;cases hk:btw h.k 1 3
   ·have HF:=hd (HEAD.o 4 (by omega) (headE_2 HQ1.o hk));clear hk;go_wp2_with fail
    go_ret
    exact⟨P,ret_int HF.o.symm,HE1.o,HC1.o,hbq,fun h=>by rw[HF.o] at h;cases h⟩
   have HK:=hd hk;clear hk
   go_wp2_with (
    refine wpList_load_wide rfl 43 _ rfl s1 0 rfl arr HB1.o.wide _ Tryz.underlying43 rfl HSZ.o ?_)
   refine(HSF.o _).mono ?_
   rintro r w2 ⟨rfl,hE⟩;have hwq:=hE.size;have HE2x:=hd (HE1.o.trans hE.nil);have HB2x:=hd (HB1.o.ext hE (by simp));have HC2x:=hd (HC1.o.ext hE (by simp));have HX2x:=hd (HX1.o.trans hE);clear hE HE1 HB1 HC1 HX1 qc qf qcl qb qbl hwq;rename World=>w1'
   cases hu:unusedS h bs.length
   case true=>
    have HF:=hd (HEAD.o 3 (by omega) (headE_3 HQ1.o HK.o hu));clear hu;go_wp2_with fail
    go_ret
    exact⟨P,ret_int HF.o.symm,HE2x.o,HC2x.o,hbq,fun h=>by rw[HF.o] at h;cases h⟩
   have HH:=hd (headE_4 HQ1.o HK.o hu (nb:=nb));clear hu HSF;have qc:=HC2x.o.cell;have qf:=HC2x.o.frozen;have qcl:=HC2x.o.lt;have hbs:s1<w1'.heap.size:=HB2x.o.lt;have HC3x:Hd (Blk (w1'.setCell ⟨cb,2,none⟩ (.int .i64 (P+1))) cb 78 #[.slice bA nb bc,v1,.int .i64 (P+1:Nat)]):=hd (HC2x.o.set_' 2 (.int .i64 (P+1)) _ rfl);have HE3x:=hd (Ext.setAt (b:=cb) (i:=2) (u:=.int .i64 (P+1)) (.inl (by simp)) HE2x.o);have HB3x:=hd (HB2x.o.far (p:=⟨cb,2,none⟩) (by simp;omega) (.int .i64 (P+1)));clear HBk HX2x;go_upto_region 11 with fail
   generalize World.setCell _ _ _=w2 at *;clear qc qf qcl HC2x HE2x HB2x hbs;rename World=>w2'
   have HV3:=hd (seq_apartR HV.o HC.o HE3x.o);have HE30:=hd (keep0 HE0.o HE3x.o (by simpa using hcb))
   go_wp2_with (
    refine wpList_load_wide rfl 43 _ rfl s1 0 rfl arr HB3x.o.wide _ Tryz.underlying43 rfl HSZ.o ?_)
   refine(HFD.o _ HE30.o HV3.o (P+1) HC3x.o HK.o).mono ?_
   rintro r w2 ⟨rfl,hE⟩;have HE2':=hd (HE3x.o.trans hE.nil);have HB2:=hd (HB3x.o.ext hE (by simp));have HC2:=hd (HC3x.o.ext hE (by simp));have HV2:=hd (HV3.o.keep hE);clear hE HE3x HB3x HC3x HV3 HE30;generalize hax:fieldsE vars nb h bs=ax;have HAX:=hd (show headE vars nb P h bs=ax from HH.o.trans hax);clear hax HH;by_cases ha0:ax=0
   ·subst ha0;have qb:=HB2.o.cell;have qbl:=HB2.o.lt;go_upto_if 60 with fail
    go_cut [10] (fun s wx=>∃A' c',s=.slice A' (innerV vars h).length c'/\Hd (VzP A' (innerV vars h).length c')/\Hd (SeqIn wx A' 1 sC (innerV vars h))/\Hd (Ext [] w2 wx))
    case first=>
     by_cases hk1:h.k=1
     ·have HIV:=hd (show innerV vars h=vars ++ [h.var] by unfold innerV;rw[if_pos hk1]);obtain⟨i0,hi0,hz0,hz1,hz2⟩:=strInfo;have hvl:vars.length<=1000000:=HV2.o.1;have HBX:=HB2;have hvz:=HVZ.o;go_wp2_with fail
      clear qb qbl;refine rgH 5 [(1,sFix (.slice VA vn vn)),(4,sStr h.var)] ?_ ?_
      ·repeat(first|exact Stays.nil|refine Stays.cons sFix.stays ?_|refine Stays.cons sStr.stays ?_)
      simp only[List.take_succ_cons,List.take_zero,List.drop_succ_cons,List.drop_zero];refine relAt_det rfl rfl ?_
      apply Exists.intro
      refine⟨fun wr nr hJ=>?_,?_⟩
      ·clear hJ;(go_simp;try go_bits)
       first|rfl|exact⟨rfl,rfl⟩
      simp only[Act.put,List.setIfInBounds_toArray,List.set_cons_succ,List.set_cons_zero];refine rel_ext (sFix (.slice VA vn vn)) rfl rfl ?_ ?_
      ·apply Exists.intro
       apply Exists.intro
       refine⟨fun wr=>?_,fun wr nr hJ hf=>?_⟩
       ·go_simp
        first|exact⟨rfl,rfl⟩|rfl
       ·refine(clip_any VA vn vc wr hvz.1 hvz.2.1 hvz.2.2).mono ?_
        rintro e w' ⟨rfl,hE⟩;exact⟨(),rfl,trivial,hE⟩
      rintro⟨⟩;simp only[Act.put,List.setIfInBounds_toArray,List.set_cons_succ,List.set_cons_zero]
      repeat
       refine relAt_det rfl rfl ?_
       apply Exists.intro
       refine⟨fun wr nr hJ=>?_,?_⟩
       ·have qx:=(HBX.o.ext hJ.1 (by simp)).cell;have qxl:=(HBX.o.ext hJ.1 (by simp)).lt;clear hJ;(go_simp;try go_bits)
        first|rfl|exact⟨rfl,rfl⟩
       simp only[Act.put,List.setIfInBounds_toArray,List.set_cons_succ,List.set_cons_zero]
      refine rel_new (sStr h.var) rfl rfl (fun wr nr hJ hf=>?_) ?_
      ·refine⟨wr.heap.size,.cells #[.string h.var] 9,?_,(Blk.new wr 9 #[.string h.var]).cell 0⟩
       (go_simp;try go_bits)
       first|rfl|exact⟨rfl,rfl⟩
      intro (g:Nat);simp only[Act.put,List.setIfInBounds_toArray,List.set_cons_succ,List.set_cons_zero];refine relAt_nil (fun w9 hJ hF=>?_)
      have HG:Hd (w9.cell? ⟨g,0,none⟩=some (.string h.var)):=hd (hF 4);have HE9:=hd hJ.1;have HV9:=hd (HV2.o.keep hJ.1);have HLA:=hd (seq_lies HV9.o);clear hF hJ;have HVZ':=hd hvz;clear hvz
      go_wp2_with (
       refine wpList_append_grows _ rfl _ _ 133 rfl 9 i0 _ 1 16 Tryz.underlying133 hi0 hz0 hz1 hz2 rfl (by decide) VA vn vn (vars.map sV) rfl ?c1 ?c2 HLA.o ⟨g,0,none⟩ 1 1 [.string h.var] rfl rfl ?c3 ?c4 (by omega) ?c5 ?c6 ?_
       case c1=>intro hA;exact⟨(HVZ'.o.1 hA).1,(HVZ'.o.1 hA).1⟩
       case c2=>rw[List.length_map,HVN.o];omega
       case c3=>exact new_one _ _ _ HG.o
       case c4=>intro u hu;rw[List.mem_singleton.1 hu];rfl
       case c5=>unfold maxLen;have:=HVN.o;omega
       case c6=>have:=HVN.o;omega
       intro v8 w8 ho8 hg8;have HX8:=hd (And.intro ho8 hg8);clear ho8 hg8)
      go_meet
      have hge:(vars ++ [h.var]).length=vn+1:=by simp[HVN.o]
      have hown:Own1 w8 w9.heap.size 9 v8 ((vars ++ [h.var]).map sV):=by
       have:=HX8.o.1;unfold Own1;rw[List.length_map,hge,List.map_append];exact this
      obtain⟨g8,c8,hv8,-,-,hlc,-⟩:=own1_at hown (by rw[List.length_map,hge];omega);rw[List.length_map] at hv8 hlc;subst hv8;exact⟨some ⟨g8,0,none⟩,c8,by rw[HIV.o],by rw[HIV.o];exact hd (vzP_some hlc),by rw[HIV.o];exact hd (own_seq hown (by have:=(headE_spec HAX.o).2.1;have:=HVN.o;simp;omega)),hd (HE9.o.grown HX8.o.2 fun q hq=>by cases hq)⟩
     ·have HIV:=hd (show innerV vars h=vars by unfold innerV;rw[if_neg hk1]);have hk1':(h.k==1)=false:=by simpa using hk1
      go_wp2_with fail
      go_meet
      exact⟨VA,vc,by rw[HIV.o,HVN.o],by rw[HIV.o,HVN.o];exact HVZ,by rw[HIV.o];exact HV2,hd (Ext.refl _ _)⟩
    case rest=>
     obtain⟨A',c',rfl,HZ',HV',HE'⟩:=hcut;rename World=>w3
     have HB3:=hd (HB2.o.ext HE'.o (by simp));have HC3:=hd (HC2.o.ext HE'.o (by simp));have HE3:=hd (HE2'.o.trans HE'.o.nil);have HE03:=hd (keep0 HE0.o HE3.o (by simpa using hcb));clear qb qbl HB2 HC2 HE2' HE';have qb:=HB3.o.cell;have qbl:=HB3.o.lt;have hXA:=hd HXS.o.all;have HCALL:=hd (HXI.o h.A bs.length h.cap (innerV vars h) A' (innerV vars h).length c' w0 w3 cb bA nb bc v1 (P+1) hXA.o.2.2.2.2.2.2.1 hXA.o.2.2.2.2.2.2.2 HPB.o rfl HE03.o hcb HV'.o rfl HZ'.o HC3.o hnb (by omega));go_wp2_with fail
     refine HCALL.o.mono ?_
     rintro r w4 ⟨bf,rfl,hE,hB,hbf4,hok⟩;have HE4:=hd (HE3.o.trans hE);have HB4:=hd hB;have HOK:=hd hok;clear hE hB hok HCALL qb qbl;generalize hay:stEL nb (innerV vars h) (P+1) (St.mk h bs).body=ay at *;have HAY:=hd (show stEL nb (innerV vars h) (P+1) bs=ay from hay);clear hay;by_cases ha1:ay=0
     ·subst ha1;have HST:=hd (show stE nb vars P (.mk h bs)=0 from(stE_good HAX.o).trans HAY.o)
      have hbe:bf=before+cntL (l.take (k+1)):=by
       rw[HOK.o rfl,cntL_take HXK.o,<-Nat.add_assoc,HP.o];simp only[cntS,St.body];omega
      go_wp2_with fail
      go_roundw
      case rel=>
       refine⟨k+1,by go_num,by omega,HE4,hd ⟨by rw[<-hbe];exact HB4.o,by omega⟩,hd fun j e hj he=>?_⟩
       rcases Nat.lt_or_ge j k with h1|h1
       ·exact HN2.o j e h1 he
       ·have:j=k:=by omega
        subst this;have:=HXK.o.symm.trans he;cases this
        rw[HP.o];exact HST.o
      case measure=>simp[intOf];omega
     ·have HST:=hd (show stE nb vars P (.mk h bs)=ay from(stE_good HAX.o).trans HAY.o);have HF:=hd (show stEL nb vars before l=ay from(stEL_at HXK.o HN2.o (by rw[HP.o,HST.o];exact ha1)).trans (by rw[HP.o,HST.o]));have ha1':(ay==0)=false:=by simpa using ha1
      go_wp2_with fail
      go_ret
      exact⟨bf,ret_int HF.o.symm,HE4.o,HB4.o,hbf4,fun h=>absurd (HF.o.symm.trans h) ha1⟩
   ·have HF:=hd (HEAD.o ax ha0 HAX.o);have ha0':(ax==0)=false:=by simpa using ha0
    go_wp2_with fail
    go_ret
    exact⟨P+1,ret_int HF.o.symm,HE2'.o,HC2.o,by omega,fun h=>absurd (HF.o.symm.trans h) ha0⟩
  ·have hkn:k=n:=by omega
   subst hkn;have HF:=hd (show stEL nb vars before l=0 from stEL_ok HN.o fun i s hi hs=>HN2.o i s (by omega) hs);have HT:Hd (l.take k=l):=hd (List.take_of_length_le (by have:=HN.o;omega));go_wp2_with fail
   go_ret
   refine⟨before+cntL (l.take k),ret_int HF.o.symm,HE.o,HBk.o.1,HBk.o.2,fun _=>by rw[HT.o]⟩
theorem bodyR_any:∀s:St,BodyC s.body:=st_ind fun h b ih=>body_list b ih
end Go.Proofs.YtfppibmloloakaaGreatDoor
