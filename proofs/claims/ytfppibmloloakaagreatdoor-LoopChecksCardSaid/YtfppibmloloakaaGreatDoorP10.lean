import Derived.Test.YtfppibmloloakaaGreatDoorP09
namespace Go.Proofs.YtfppibmloloakaaGreatDoor
open Go.RowKit Go.Proofs.Tryz
set_option linter.all false
structure CStF (w:World)(n:Nat)(L:List Nat)(AL:List Value)(names:List ByteArray)(path:List Int)(gl:List Nat)(no g:Nat)(h:SH)(b:List St)(pb po:Nat)(CA:Option Addr)(cc:Nat)(A:Option Addr)(cap:Nat)(gs:List Nat)(PA:Option Addr)(pc:Nat)(vv:Value):Prop where
 blk:Blk w g 129 (csArr pb po names.length (if h.k=1 then(manyS h:Int) else 0) (.slice CA (if h.k=2 then h.conds.length else 0) cc) (.slice A b.length cap) (if h.k=3 then(no:Int) else 0) (.slice PA path.length pc) (if h.k=3 then h.at_.base else 0) (if h.k=3 then coefS names h.at_.ts else zeroC) vv no (no+storesS (.mk h b):Nat))
 gn:g<n
 src:∀(j:Nat) (v:Value),(stH h b.length)[j]? = some v->w.cell? ⟨pb,po+j,none⟩=some v
 pn:pb<n
 cond:h.k=2->SeqIn w CA 9 (lnL names) h.conds/\∀b o,CA=some ⟨b,o,none⟩->b<n
 pth:SeqIn w PA 1 inC path/\∀b o,PA=some ⟨b,o,none⟩->b<n
 val:h.k=3->∃(vb:Nat) (LA:Option Addr) (lc:Nat),vv=ptV vb/\CEx w n [] names vb h.val/\L[no]? = some g/\AL[no]? = some (.slice LA gl.length lc)/\SeqIn w LA 1 ptC gl
 row:SeqIn w A 1 ptC gs/\∀b o,A=some ⟨b,o,none⟩->b<n
 len:gs.length=b.length
 kid:∀(i g':Nat) (s':St),gs[i]? = some g'->b[i]? = some s'->CSt w n [] L AL (innerV names h) (path ++ [(i:Int)]) (innerG gl h g) (no+storesL (b.take i)) g' s'
theorem CSt.open_ {w:World}{n:Nat}{L:List Nat}{AL:List Value}{names:List ByteArray}{path:List Int}{gl:List Nat}{no g:Nat}{h:SH}{b:List St}(k:CSt w n [] L AL names path gl no g (.mk h b)):∃pb po CA cc A cap gs PA pc vv,CStF w n L AL names path gl no g h b pb po CA cc A cap gs PA pc vv:=by
 cases k with
 | mk _ _ _ _ _ _ _ pb po CA cc A cap gs PA pc vv hg hg2 hp hp2 hc hpv hv hk hl hs=>
  exact⟨pb,po,CA,cc,A,cap,gs,PA,pc,vv,hg,hg2.1,hp,hp2.1,fun h2=>⟨(hc h2).1,fun b o hA=>((hc h2).2 b o hA).1⟩,⟨hpv.1,fun b o hA=>(hpv.2 b o hA).1⟩,fun h3=>by
   obtain⟨vb,LA,lc,e1,e2,e3,e4,e5⟩:=hv h3;exact⟨vb,LA,lc,e1,e2,e3,e4,e5.1⟩,⟨hk.1,fun b o hA=>(hk.2 b o hA).1⟩,hl,hs⟩
structure LstAt (w:World)(n:Nat)(nb:Nat)(L:List Nat)(AL:List Value)(names:List ByteArray)(xs:List Int)(gl:List Nat)(no:Nat)(A:Option Addr)(gs:List Nat)(l:List St):Prop where
 row:SeqIn w A 1 ptC gs
 rown:∀b o,A=some ⟨b,o,none⟩->b<n
 len:gs.length=l.length
 at_:∀(i g:Nat) (s:St),gs[i]? = some g->l[i]? = some s->CSt w n [] L AL names (xs ++ [(i:Int)]) gl (no+storesL (l.take i)) g s
 fd:∀s∈l,Fd nb names s
theorem LstAt.step {w w':World}{n nb:Nat}{L:List Nat}{AL:List Value}{names:List ByteArray}{xs:List Int}{gl:List Nat}{no:Nat}{A:Option Addr}{gs:List Nat}{l:List St}(h:LstAt w n nb L AL names xs gl no A gs l){S:List Nat}(hE:Ext S w w')(hS:∀x∈S,n<=x):LstAt w' n nb L AL names xs gl no A gs l:=
 ⟨h.row.ext hE fun x hx b o hA hxb=>by have:=hS x hx;have:=h.rown b o hA;omega,h.rown,h.len,fun i g s hg hs=>(h.at_ i g s hg hs).step hE (fun x hx=>.inr (hS x hx)) (Nat.le_refl n) (by simp) (fun i g h=>h) fun i g h=>h,h.fd⟩
theorem LstAt.body {w:World}{n nb:Nat}{L:List Nat}{AL:List Value}{names:List ByteArray}{path:List Int}{gl:List Nat}{no g:Nat}{h:SH}{b:List St}{pb po:Nat}{CA:Option Addr}{cc:Nat}{A:Option Addr}{cap:Nat}{gs:List Nat}{PA:Option Addr}{pc:Nat}{vv:Value}(k:CStF w n L AL names path gl no g h b pb po CA cc A cap gs PA pc vv)(hF:Fd nb names (.mk h b)):LstAt w n nb L AL (innerV names h) path (innerG gl h g) no A gs b:=by
 refine⟨k.row.1,k.row.2,k.len,k.kid,?_⟩
 cases hF with
 | loop _ _ _ h1 h2 h3 h4 h5 h6 h7 h8 h9=>
                       have e:innerV names h=names ++ [h.var]:=if_pos h1;rw[e];exact h9
 | when _ _ _ h1 h2 h3 h4 h5=>
                 have e:innerV names h=names:=if_neg (by omega);rw[e];exact h5
 | store _ _ h1=>exact fun s hs=>by simp at hs
theorem valS_bdd {h:SH}{k:Nat}(h1 : -100000<=h.lo/\h.lo<=100000)(h2 : -100000<=h.hi/\h.hi<=100000)(h3:1<=h.step/\h.step<=100000)(hk:k<manyS h):Bdd (valS h k):=by
 have h4:=(valS_lt h3.1).2 hk;have h5:0<=(k:Int)*h.step:=Int.mul_nonneg (by omega) (by omega);unfold valS at *;exact⟨by omega,by omega⟩
theorem envS_zip {names:List ByteArray}{vs:List Int}(hl:vs.length=names.length)(h:SH)(k:Nat):envS (names.zip vs) h k=(names ++ [h.var]).zip (vs ++ [valS h k]):=by
 unfold envS;rw[List.zip_append hl.symm];rfl
theorem manyS_le {h:SH}(h1 : -100000<=h.lo/\h.lo<=100000)(h2 : -100000<=h.hi/\h.hi<=100000)(h3:1<=h.step/\h.step<=100000):manyS h<=200000:=by
 rcases Nat.lt_or_ge 200000 (manyS h) with h4|h4
 ·exfalso
  have h5:=(valS_lt (h:=h) (k:=200000) h3.1).2 h4;have h6:(200000:Int)*1<=200000*h.step:=Int.mul_le_mul_of_nonneg_left h3.1 (by decide);unfold valS at h5;omega
 ·exact h4
theorem EnvR.pop {w:World}{eb:Nat}{vs:List Int}{x:Int}(h:EnvR w eb (vs ++ [x])):EnvR w eb vs:=by
 obtain⟨h1,h2,C,h3,h4,h5⟩:=h;refine⟨by simp at h1;omega,fun v hv=>h2 v (List.mem_append.2 (.inl hv)),C,h3,h4,fun i y hy=>h5 i y ?_⟩
 rw[List.getElem?_append_left (List.getElem?_eq_some_iff.1 hy).1];exact hy
def okR (env:Env)(l:List St)(left:Int):Bool:=l.isEmpty||decide ((runNL env l:Int)<=left)
theorem okR_not {env:Env}{l:List St}{left:Int}{k:Nat}{s:St}(hs:l[k]? = some s)(h:left<runNL env (l.take (k+1))):okR env l left=false:=by
 have h1:runNL env (l.take (k+1))<=runNL env l:=runNL_le;unfold okR
 have h2:l.isEmpty=false:=by cases l with
  | nil=>simp at hs
  | cons=>rfl
 have h3:decide ((runNL env l:Int)<=left)=false:=by simp;omega
 rw[h2,h3];rfl
theorem okR_no {env:Env}{l:List St}{left:Int}(h:okR env l left=false):left<runNL env l:=by
 unfold okR at h;simp at h;omega
theorem okR_all {env:Env}{l:List St}{left:Int}(h:l.length=0\/(runNL env l:Int)<=left):okR env l left=true:=by
 unfold okR;rcases h with h|h
 ·rw[List.length_eq_zero_iff.1 h];rfl
 ·simp[h]
theorem okR_yes {env:Env}{l:List St}{left:Int}(h:okR env l left=true)(h0:0<=left):(runNL env l:Int)<=left:=by
 unfold okR at h;simp at h;rcases h with h|h
 ·subst h;simpa[runNL] using h0
 ·exact h
def RunP (kb eb:Nat)(vs:List Int)(env:Env)(l:List St)(left:Int)(w:World)(e:Ending)(w':World):Prop:=
 ∃left':Int,e=.returned (.bool (okR env l left))/\Ext [kb,eb] w w'/\Blk w' kb 182 #[.int .i64 left']/\EnvR w' eb vs/\(okR env l left=true->left'=left-runNL env l)
def RunC (l:List St):Prop:=∀(n nb kb eb:Nat) (A:Option Addr) (cap:Nat) (gs:List Nat) (names:List ByteArray) (vs:List Int) (no:Nat) (xs:List Int) (gl L:List Nat) (AL:List Value) (left:Int) (w:World),
 LstAt w n nb L AL names xs gl no A gs l->EnvR w eb vs->vs.length=names.length->n<=eb->n<=kb->kb≠eb->Blk w kb 182 #[.int .i64 left]->cntL l<=1000000->-1000000000+(cntL l:Int)<=left->left<=2500000->
  Calls Tryz.prog 99 #[.pointer (some ⟨kb,0,none⟩),.slice A l.length cap,.slice (some ⟨eb,0,none⟩) vs.length 8] w (RunP kb eb vs (names.zip vs) l left w)
attribute [local irreducible] relAt
set_option maxHeartbeats 16000000 in
set_option maxRecDepth 100000 in
theorem run_list (l:List St)(ih:∀s∈l,RunC s.body):RunC l:=by
 intro n nb kb eb A cap gs names vs no xs gl L AL left w hA hV hl hne hnk hke hB hcn h1 h2;have HI:=hd ih;have HA:=hd hA;have HV:=hd hV;have HL:=hd hl;have HB:=hd hB;have hn9:gs.length<=1000000:=hA.row.1;have hkl:=hB.lt;have hd7:=hV.1;clear ih hA hV hl hB;generalize hn:l.length=m at *;have HN:=hd hn;generalize hd':vs.length=d at *;have HD:=hd hd';have hm9:m<=1000000:=by have:=HA.o.len;omega
 clear hn hd';generalize henv:names.zip vs=env at *;have HENV:=hd henv;clear henv;go_enter Tryz.func99,Tryz.ntmps99
 go_wp2_with fail
 go_loopw [12] (fun i wr=>∃k:Nat,i=.int .i64 k/\k<=m/\Hd (Ext [kb,eb] w wr)/\Hd (Blk wr kb 182 #[.int .i64 (left-runNL env (l.take k))])/\Hd (EnvR wr eb vs)/\Hd (k=0\/(runNL env (l.take k):Int)<=left)) (fun i _=>(m-intOf i).toNat)
 case atStart=>exact⟨0,rfl,Nat.zero_le _,hd (Ext.refl _ _),hd (by simpa[runNL] using HB.o),HV,hd (.inl rfl)⟩
 case round=>
  obtain⟨k,rfl,hk,HE,HBk,HVk,HK⟩:=hrel;rename World=>wq
  by_cases hlt:k<m
  ·have hkm:(k:Int)<(m:Int):=by omega
   have hS:∀x∈[kb,eb],n<=x:=fun x hx=>by
    rcases List.mem_cons.1 hx with rfl|hx
    ·exact hnk
    ·rw[List.mem_singleton.1 hx];exact hne
   have HAq:=hd (HA.o.step HE.o hS);obtain⟨bA,g,rfl,hg,hgc⟩:=HAq.o.row.at (i:=k) (by have:=HA.o.len;have:=HN.o;omega);have hgq:wq.cell? ⟨bA,k,none⟩=some (.pointer (some ⟨g,0,none⟩)):=by have:=hgc 0 _ rfl;rw[Nat.mul_one,Nat.add_zero] at this;exact this
   have hgql:=World.block_lt_of_cell? wq _ hgq;simp only at hgql;obtain⟨s,hs⟩:∃s,l[k]? = some s:=⟨_,List.getElem?_eq_getElem (by have:=HN.o;omega)⟩;obtain⟨h,bs⟩:=s;have hmem:=List.mem_of_getElem? hs;obtain⟨pb,po,CA,cc,BA,bcap,bgs,PA,pc,vv,hC⟩:=(HAq.o.at_ k g _ hg hs).open_;have HC:=hd hC;have HFD:=hd (HA.o.fd _ hmem);have HIH:=hd (HI.o _ hmem);have HSK:=hd hs;clear hg hgc hs hmem hC;generalize hlk:left-(runNL env (l.take k):Int)=lk at *;have HLK:=hd hlk;have hlk1:lk<=2500000:=by omega
   have hcs:1+cntL bs<=cntL l:=by have:=cnt_le HSK.o;simpa[cntS] using this
   have hlk2 : -1000000000+(1+cntL bs:Nat)<=lk:=by
    rcases HK.o with h0|h0
    ·subst h0;simp[runNL] at hlk;omega
    ·omega
   clear hlk;have qk:=HBk.o.cell;have qkf:=HBk.o.frozen;have qkl:=HBk.o.lt;go_upto_block 2 with fail
   have HE1:=hd (Ext.setAt (b:=kb) (i:=0) (u:=Value.int .i64 (lk-1)) (.inl (by simp)) (Ext.refl [kb] wq));have HB1:=hd (HBk.o.set_' 0 (.int .i64 (lk-1)) #[.int .i64 (lk-1)] rfl);generalize World.setCell _ _ _=w1 at *;clear qk qkf qkl hgq hgql;have hS1:∀x∈[kb],n<=x:=fun x hx=>by rw[List.mem_singleton.1 hx];exact hnk
   have hgn:=HC.o.gn;have hpn:=HC.o.pn;have HG1:=hd (HC.o.blk.ext HE1.o (fun hm=>by rw[List.mem_singleton] at hm;omega));have HP1:Hd (∀(j:Nat) (v:Value),(stH h bs.length)[j]? = some v->w1.cell? ⟨pb,po+j,none⟩=some v):=hd fun j v hv=>HE1.o.held (HC.o.src j v hv) (fun hm=>by rw[List.mem_singleton] at hm;simp only at hm;omega)
   have HV1:=hd (HVk.o.keep HE1.o (fun hm=>by rw[List.mem_singleton] at hm;omega));have hw1:=HE1.o.size;go_cut [] (fun wx=>∃l2:Int,l2=left-runNL env (l.take (k+1))/\-1000000000000<=l2/\Hd (Ext [kb,eb] wq wx)/\Hd (Blk wx kb 182 #[.int .i64 l2])/\Hd (EnvR wx eb vs))
   case first=>
    have qg0:w1.cell? ⟨g,0,none⟩=some (.pointer (some ⟨pb,po,none⟩)):=HG1.o.cell 0;have qgl:=HG1.o.lt;have qk:w1.cell? ⟨pb,po,none⟩=some (.int .i64 h.k):=HP1.o 0 _ rfl;have qpl:=World.block_lt_of_cell? w1 _ qk;simp only at qpl;by_cases hk2:h.k=2
    ·
     have e2:(h.k==2)=true:=by simpa using hk2
     have HIV:Hd (innerV names h=names):=hd (if_neg (by omega))
     have HHO:=hd (holds_any g CA h.conds.length cc h names eb vs w1 (by have:=HG1.o.cell 3;rw[this];simp[csArr,hk2]) rfl (by
       have:=(HC.o.cond hk2);exact this.1.ext HE1.o fun x hx b o hA hxb=>by have:=hS1 x hx;have:=this;have h9:=(HC.o.cond hk2).2 b o hA;omega) (by
       have:=HFD.o;cases this with
       | loop _ _ _ h1=>omega
       | when _ _ _ _ _ h1 h2=>exact h1
       | store _ _ h1=>omega) HV1.o (by rw[HD.o];exact HL.o))
     rw[HD.o,HENV.o] at HHO;have HKK:=hd hk2;generalize h.k=hk at qk e2;clear hk2;go_wp2_with fail
     refine HHO.o.mono ?_
     rintro e w2 ⟨rfl,hE⟩;have HE2:=hd hE;clear hE HHO;have qg4:w2.cell? ⟨g,4,none⟩=some (.slice BA bs.length bcap):=(HG1.o.ext HE2.o (by simp)).cell 4;have qg2l:=(HG1.o.ext HE2.o (by simp)).lt;have HEW:=hd (HE.o.trans (HE1.o.mono (T:=[kb,eb]) fun x hx=>.inl (by rw[List.mem_singleton.1 hx];simp)));cases hh:holdsS env h
     ·have HHH:=hd hh;clear hh;go_wp2_with fail
      go_meet
      refine⟨lk-1,?_,by omega,hd ((HE1.o.mono fun x hx=>.inl (by rw[List.mem_singleton.1 hx];simp)).trans HE2.o.nil),hd (HB1.o.ext HE2.o (by simp)),hd (HV1.o.keep HE2.o (by simp))⟩
      rw[runNL_take HSK.o,runN_when HKK.o,HHH.o];have:=HLK.o;simp;omega
     ·have HHH:=hd hh;clear hh
      have HQ:=hd (HIH.o n nb kb eb BA bcap bgs names vs (no+storesL (l.take k)) (xs ++ [(k:Int)]) (innerG gl h g) L AL (lk-1) w2 (by
        have:=((LstAt.body HC.o HFD.o).step HE1.o hS1).step HE2.o (by simp);rw[HIV.o] at this;exact this) (HV1.o.keep HE2.o (by simp)) (by rw[HD.o];exact HL.o) hne hnk hke (HB1.o.ext HE2.o (by simp)) (by simp only[St.body];omega) (by simp only[St.body];omega) (by omega))
      simp only[St.body] at HQ;rw[HD.o,HENV.o] at HQ;go_wp2_with fail
      refine HQ.o.mono ?_
      rintro e w3 ⟨l3,rfl,hE3,hB3,hV3,hl3⟩;have HE3:=hd hE3;have HB3:=hd hB3;have HV3:=hd hV3;have HL3:=hd hl3;clear hE3 hB3 hV3 hl3 HQ;cases hok:okR env bs (lk-1)
      ·have HOK:=hd hok;clear hok;go_wp2_with fail
       go_ret
       have hno:okR env l left=false:=okR_not HSK.o (by
        rw[runNL_take HSK.o,runN_when HKK.o,HHH.o];have:=okR_no HOK.o;have:=HLK.o;simp;omega)
       exact⟨l3,by rw[hno];rfl,(HEW.o.trans HE2.o.nil).trans HE3.o,HB3.o,HV3.o,fun h=>by rw[hno] at h;cases h⟩
      ·have HOK:=hd hok;clear hok;go_wp2_with fail
       go_meet
       refine⟨l3,?_,?_,hd (((HE1.o.mono fun x hx=>.inl (by rw[List.mem_singleton.1 hx];simp)).trans HE2.o.nil).trans HE3.o),HB3,HV3⟩
       ·rw[HL3.o HOK.o,runNL_take HSK.o,runN_when HKK.o,HHH.o];have:=HLK.o;simp;omega
       ·rw[HL3.o HOK.o];have h7:=HOK.o;unfold okR at h7;simp at h7;rcases h7 with h7|h7
        ·subst h7;simp[runNL];omega
        ·omega
    ·have e2:(h.k==2)=false:=by simpa using hk2
     have qg2:w1.cell? ⟨g,2,none⟩=some (.int .i64 (if h.k=1 then(manyS h:Int) else 0)):=HG1.o.cell 2;have qg4:w1.cell? ⟨g,4,none⟩=some (.slice BA bs.length bcap):=HG1.o.cell 4;have qv:w1.cell? ⟨pb,po+5,none⟩=some (.bool h.vec):=HP1.o 5 _ rfl;by_cases hk1:h.k=1
     ·have e1:(h.k==1)=true:=by simpa using hk1
      rw[if_pos hk1] at qg2;have HKK:=hd hk1
      have HBD:Hd ((-100000<=h.lo/\h.lo<=100000)/\(-100000<=h.hi/\h.hi<=100000)/\(1<=h.step/\h.step<=100000)/\names.length<8):=hd (by
       have:=HFD.o;cases this with
       | loop _ _ _ _ _ _ h0 h1 h2 h3=>exact⟨h1,h2,h3,h0⟩
       | when _ _ _ h1=>omega
       | store _ _ h1=>omega)
      have hmy:manyS h<=200000:=manyS_le HBD.o.1 HBD.o.2.1 HBD.o.2.2.1;generalize h.k=hk at qk e1 e2;clear hk1 hk2;generalize hmn:manyS h=mn at *;have HMN:=hd hmn;clear hmn;cases hvec:h.vec
      ·
       rw[hvec] at qv;have HVEC:=hd hvec;clear hvec
       have HRN:Hd ((runNL env (l.take (k+1)):Int)=runNL env (l.take k)+(1+(mn+sumN mn fun k=>runNL (envS env h k) bs))):=hd (by
        rw[runNL_take HSK.o,runN_for HKK.o HVEC.o,HMN.o];simp)
       have HQ:Hd (∀W,Ext [] w1 W->W.cell? ⟨kb,0,none⟩=some (.int .i64 (lk-1))/\kb<W.heap.size/\W.cell? ⟨g,2,none⟩=some (.int .i64 mn)/\g<W.heap.size):=hd fun W hW=>⟨(HB1.o.ext hW (by simp)).cell 0,(HB1.o.ext hW (by simp)).lt,hW.held qg2 (by simp),Nat.lt_of_lt_of_le qgl hW.size⟩
       go_upto_region 11 with fail
       refine wp_region_rel 9 (JE _) (Ext []) (kinds []) (by kernel_rfl) (by kernel_rfl) JE.less ?_ JE.start ?_
       ·repeat(first|exact Stays.nil|refine Stays.cons sFix.stays ?_)
       simp only[List.take_succ_cons,List.take_zero,List.drop_succ_cons,List.drop_zero]
       repeat
        refine relAt_det rfl rfl ?_
        apply Exists.intro
        refine⟨fun wr nr hJ=>?_,?_⟩
        ·obtain⟨q0,q0l,q2,qgl⟩:=HQ.o wr hJ;clear hJ;(go_simp;try go_bits)
         first|rfl|exact⟨rfl,rfl⟩
        simp only[Act.put,List.setIfInBounds_toArray,List.set_cons_succ,List.set_cons_zero]
       refine relAt_nil (fun w2 hJ hF=>?_)
       have HB2:=hd (HB1.o.ext hJ (by simp));have HE2:=hd hJ;clear hF hJ;have q0:=HB2.o.cell;have q0f:=HB2.o.frozen;have q0l:=HB2.o.lt;have HB3:=hd (HB2.o.set_' 0 (.int .i64 (lk-1-mn)) #[.int .i64 (lk-1-mn)] rfl);have HE3:=hd (Ext.setAt (b:=kb) (i:=0) (u:=Value.int .i64 (lk-1-mn)) (.inl (by simp)) (Ext.refl [kb] w2));go_upto_region 12 with fail
       generalize World.setCell _ _ _=w3 at *;clear q0 q0f q0l;have HX3:Hd (Ext [kb] wq w3):=hd (HE1.o.trans (HE2.o.nil.trans HE3.o));have HV3:=hd (HVk.o.keep HX3.o (fun hm=>by rw[List.mem_singleton] at hm;omega));have qg3:w3.cell? ⟨g,2,none⟩=some (.int .i64 mn):=(HE2.o.nil.trans HE3.o:Ext [kb] w1 w3).held qg2 (fun hm=>by rw[List.mem_singleton] at hm;simp only at hm;omega);have qg3l:g<w3.heap.size:=by have:=HE2.o.size;have:=HE3.o.size;omega
       have q0:=HB3.o.cell;have q0l:=HB3.o.lt;by_cases hneg:lk-1-mn<0
       ·have e3:decide (lk-1-(mn:Int)<0)=true:=by simpa using hneg
        have hno:okR env l left=false:=okR_not HSK.o (by
         rw[HRN.o];have:=HLK.o;omega)
        have HNO:=hd hno;clear hneg hno;go_wp2_with fail
        go_ret
        exact⟨lk-1-mn,by rw[HNO.o];rfl,HE.o.trans (HX3.o.mono fun x hx=>.inl (by rw[List.mem_singleton.1 hx];simp)),HB3.o,HV3.o,fun h=>by rw[HNO.o] at h;cases h⟩
       ·have e3:decide (lk-1-(mn:Int)<0)=false:=by simpa using hneg
        have HNN:Hd (0<=lk-1-mn):=hd (by omega);clear hneg;go_wp2_with fail
        clear q0 q0l qg3 qg3l;go_loopw [110] (fun i wx=>∃j:Nat,i=.int .i64 j/\j<=mn/\Hd (Ext [kb,eb] w3 wx)/\Hd (Blk wx kb 182 #[.int .i64 (lk-1-mn-sumN j fun k=>runNL (envS env h k) bs)])/\Hd (EnvR wx eb vs)/\Hd (0<=lk-1-mn-sumN j fun k=>runNL (envS env h k) bs)) (fun i _=>(mn-intOf i).toNat)
        case atStart=>exact⟨0,rfl,Nat.zero_le _,hd (Ext.refl _ _),hd (by simpa[sumN_zero] using HB3.o),HV3,hd (by simpa[sumN_zero] using HNN.o)⟩
        case round=>
         obtain⟨j,rfl,hj,HEJ,HBJ,HVJ,HNJ⟩:=hrel;rename World=>wj
         by_cases hjl:j<mn
         ·have hjm:(j:Int)<(mn:Int):=by omega
          have HXJ:Hd (Ext [kb,eb] w1 wj):=hd (((HE2.o.nil.trans HE3.o:Ext [kb] w1 w3).mono (fun x hx=>.inl (by rw[List.mem_singleton.1 hx];simp))).trans HEJ.o);have hwj:=HXJ.o.size;have hnot:∀b,b<n->b∉[kb,eb]:=fun b hb hm=>by have:=hS b hm;omega
          have q0:wj.cell? ⟨g,0,none⟩=some (.pointer (some ⟨pb,po,none⟩)):=HXJ.o.held qg0 (hnot g hgn);have q4:wj.cell? ⟨g,4,none⟩=some (.slice BA bs.length bcap):=HXJ.o.held qg4 (hnot g hgn);have ql:wj.cell? ⟨pb,po+2,none⟩=some (.int .i64 h.lo):=HXJ.o.held (HP1.o 2 _ rfl) (hnot pb hpn);have qs:wj.cell? ⟨pb,po+4,none⟩=some (.int .i64 h.step):=HXJ.o.held (HP1.o 4 _ rfl) (hnot pb hpn)
          have HQJ:Hd (∀W,Ext [eb] wj W->W.cell? ⟨g,0,none⟩=some (.pointer (some ⟨pb,po,none⟩))/\W.cell? ⟨g,4,none⟩=some (.slice BA bs.length bcap)/\g<W.heap.size/\W.cell? ⟨pb,po+2,none⟩=some (.int .i64 h.lo)/\W.cell? ⟨pb,po+4,none⟩=some (.int .i64 h.step)/\pb<W.heap.size):=hd fun W hW=>by
           have hnot1:∀b,b<n->b∉[eb]:=fun b hb hm=>by rw[List.mem_singleton] at hm;omega
           have:=hW.size;exact⟨hW.held q0 (hnot1 g hgn),hW.held q4 (hnot1 g hgn),by omega,hW.held ql (hnot1 pb hpn),hW.held qs (hnot1 pb hpn),by omega⟩
          have HXV:=hd (valS_bdd HBD.o.1 HBD.o.2.1 HBD.o.2.2.1 (by rw[HMN.o];exact hjl):Bdd (valS h j));have hds:d<8:=by have:=HBD.o.2.2.2;have:=HL.o;omega
          have HRJ:=hd (sumN_succ j fun k=>runNL (envS env h k) bs);have HRM:=hd (sumN_le (fun k=>runNL (envS env h k) bs) (show j+1<=mn by omega));have HEV:=hd (envS_zip (by rw[HD.o];exact HL.o) h j:envS (names.zip vs) h j=_);rw[HENV.o] at HEV;have hvlo:=HBD.o.1;unfold valS at HXV HEV;generalize hlo:h.lo=lo at *;generalize hst:h.step=st at *;clear q0 q4 ql qs;have m1 : -9223372036854775808<=(j:Int)*st:=by have:=HXV.o.1;omega
          have m2:(j:Int)*st<=9223372036854775807:=by have:=HXV.o.2;omega
          have m3 : -9223372036854775808<=lo+(j:Int)*st:=by have:=HXV.o.1;omega
          have m4:lo+(j:Int)*st<=9223372036854775807:=by have:=HXV.o.2;omega
          clear hlo hst;go_upto_region 17 with fail
          refine rgW 25 [eb] (fEnv eb d (lo+(j:Int)*st)) [(23,sCells wj.heap.size [.int .i64 (lo+(j:Int)*st)]),(24,sEnv eb (d+1) (vs ++ [lo+(j:Int)*st]))] ?_ ?_
          ·refine Stays.cons (sCells.stays fun b j u y hb hu hf=>?_) (Stays.cons (sEnv.stays fun y hy=>?_) Stays.nil)
           ·have h9:b=eb:=hf.1;have:=HVJ.o.lt;omega
           ·rw[<-HD.o,List.getElem?_append_right (Nat.le_refl _),Nat.sub_self] at hy;cases hy
            rfl
          simp only[List.take_succ_cons,List.take_zero,List.drop_succ_cons,List.drop_zero]
          repeat
           refine relAt_det rfl rfl ?_
           apply Exists.intro
           refine⟨fun wr nr hJ=>?_,?_⟩
           ·obtain⟨q0,q4,qgl,ql,qs,qpl⟩:=HQJ.o wr hJ.1;clear hJ;(go_simp;try go_bits)
            first|rfl|exact⟨rfl,rfl⟩
           simp only[Act.put,List.setIfInBounds_toArray,List.set_cons_succ,List.set_cons_zero]
          refine rel_newL (sCells wj.heap.size [.int .i64 (lo+(j:Int)*st)]) rfl rfl (fun wr nr hJ hf=>?_) ?_
          ·refine⟨wr.heap.size,.cells #[.int .i64 (lo+(j:Int)*st)] 3,?_,Ext.size hJ.1,cells_one _ _ _ ((Blk.new wr 3 #[.int .i64 (lo+(j:Int)*st)]).cell 0)⟩
           (go_simp;try go_bits)
           first|rfl|exact⟨rfl,rfl⟩
          intro (b23:Nat);simp only[Act.put,List.setIfInBounds_toArray,List.set_cons_succ,List.set_cons_zero];refine rel_push eb b23 1 d vs (lo+(j:Int)*st) _ _ rfl rfl rfl rfl rfl HD.o hds HXV.o (fun wr nr hJ hf=>?_) ?_
          ·have h23:(sCells wj.heap.size [.int .i64 (lo+(j:Int)*st)]).V b23 wr:=get_after hf 23 (by kernel_rfl);exact⟨HVJ.o.rw hJ.2 fun y hy=>by have:=(List.getElem?_eq_some_iff.1 hy).1;have:=HD.o;omega,h23.2 0 _ rfl⟩
          simp only[Act.put,List.setIfInBounds_toArray,List.set_cons_succ,List.set_cons_zero];refine relAt_nil (fun w5 hJ hF=>?_)
          have HV5:Hd (EnvR w5 eb (vs ++ [lo+(j:Int)*st])):=hd (hF 24);have HE5:=hd hJ.1;clear hF hJ;have hIV:innerV names h=names ++ [h.var]:=if_pos HKK.o;have HXQ:Hd (Ext [kb,eb] wq w5):=hd (((HE1.o.mono fun x hx=>.inl (by rw[List.mem_singleton.1 hx];simp)).trans HXJ.o).trans (HE5.o.mono fun x hx=>.inl (by rw[List.mem_singleton.1 hx];simp)));have HBJ5:=hd (HBJ.o.ext HE5.o (fun hm=>by rw[List.mem_singleton] at hm;omega));have HLA:=hd ((LstAt.body HC.o HFD.o).step HXQ.o hS);rw[hIV] at HLA;have HQ:=hd (HIH.o n nb kb eb BA bcap bgs (names ++ [h.var]) (vs ++ [lo+(j:Int)*st]) (no+storesL (l.take k)) (xs ++ [(k:Int)]) (innerG gl h g) L AL _ w5 HLA.o HV5.o (by simp;have:=HL.o;have:=HD.o;omega) hne hnk hke HBJ5.o (by simp only[St.body];omega) (by simp only[St.body];have:=HNJ.o;omega) (by have:=HNJ.o;omega));simp only[St.body] at HQ;rw[<-HEV.o,List.length_append,List.length_singleton,HD.o] at HQ;clear HLA hIV;go_wp2_with fail
          refine HQ.o.mono ?_
          rintro e w7 ⟨l7,rfl,hE7,hB7,hV7,hl7⟩;have HE7:=hd hE7;have HB7:=hd hB7;have HV7:=hd hV7.pop;have HL7:=hd hl7;clear hE7 hB7 hV7 hl7 HQ HV5 HBJ5;have HX7:Hd (Ext [kb,eb] wj w7):=hd ((HE5.o.mono fun x hx=>.inl (by rw[List.mem_singleton.1 hx];simp)).trans HE7.o);generalize hsj:sumN j (fun k=>runNL (envS env h k) bs)=sj at *;generalize hrb:runNL (envS env h j) bs=rb at *;have HSJ:=hd hsj;have HRB:=hd hrb;clear hsj hrb;generalize hlj:lk-1-(mn:Int)-(sj:Int)=lj at *;have HLJ:=hd hlj;clear hlj;cases hok:okR (envS env h j) bs lj
          ·have hno:okR env l left=false:=okR_not HSK.o (by
            rw[HRN.o];have h1:=okR_no hok;have h2:=HRM.o;rw[HRJ.o] at h2;have h3:=HLJ.o;have h4:=HLK.o;have h5:=HRB.o;omega)
           have HNO:=hd hno;clear hok hno;go_wp2_with fail
           go_ret
           exact⟨l7,by rw[HNO.o];rfl,(HE.o.trans (HX3.o.mono fun x hx=>.inl (by rw[List.mem_singleton.1 hx];simp))).trans (HEJ.o.trans HX7.o),HB7.o,HV7.o,fun h=>by rw[HNO.o] at h;cases h⟩
          ·have HYE:=hd (okR_yes hok HNJ.o);have HLL:=hd (HL7.o hok);clear hok;go_wp2_with fail
           go_roundw
           case rel=>
            have e9:lk-1-(mn:Int)-((sumN (j+1) fun k=>runNL (envS env h k) bs:Nat):Int)=l7:=by
             rw[HRJ.o,HLL.o,<-HLJ.o];omega
            refine⟨j+1,by go_num,by omega,hd (HEJ.o.trans HX7.o),hd (by rw[e9];exact HB7.o),HV7,hd ?_⟩
            rw[e9,HLL.o];have h1:=HYE.o;have h2:=HRB.o;omega
           case measure=>simp[intOf];omega
         ·have hjm:j=mn:=by omega
          subst hjm;go_wp2_with fail
          go_meet
          refine⟨lk-1-j-sumN j fun k=>runNL (envS env h k) bs,?_,by have:=HNJ.o;omega,hd ((HX3.o.mono fun x hx=>.inl (by rw[List.mem_singleton.1 hx];simp)).trans HEJ.o),HBJ,HVJ⟩
          rw[HRN.o];have:=HLK.o;omega
      ·
       rw[hvec] at qv;have HVEC:=hd hvec;clear hvec;have hbl9:bs.length<=1000000:=by have:=HC.o.row.1.1;have:=HC.o.len;omega
       have HRN:Hd ((runNL env (l.take (k+1)):Int)=runNL env (l.take k)+(1+mn*(1+bs.length))):=hd (by
        rw[runNL_take HSK.o,runN_vec HKK.o HVEC.o,HMN.o];simp)
       generalize bs.length=bl at *;have hpr:(0:Int)<=mn*(1+bl)/\(mn:Int)*(1+bl)<=200000*1000001:=⟨Int.mul_nonneg (by omega) (by omega),Int.mul_le_mul (by omega) (by omega) (by omega) (by omega)⟩;generalize hpe:(mn:Int)*(1+bl)=pr at *;have hpe1 : -9223372036854775808<=(mn:Int)*(1+bl):=by rw[hpe];omega
       have hpe2:(mn:Int)*(1+bl)<=9223372036854775807:=by rw[hpe];omega
       have hpe3 : -9223372036854775808<=lk-1-(mn:Int)*(1+bl):=by rw[hpe];omega
       have hpe4:lk-1-(mn:Int)*(1+bl)<=9223372036854775807:=by rw[hpe];omega
       have HPE:=hd hpe;clear hpe;have HQ:Hd (∀W,Ext [] w1 W->W.cell? ⟨kb,0,none⟩=some (.int .i64 (lk-1))/\kb<W.heap.size/\W.cell? ⟨g,2,none⟩=some (.int .i64 mn)/\W.cell? ⟨g,4,none⟩=some (.slice BA bl bcap)/\g<W.heap.size):=hd fun W hW=>⟨(HB1.o.ext hW (by simp)).cell 0,(HB1.o.ext hW (by simp)).lt,hW.held qg2 (by simp),hW.held qg4 (by simp),Nat.lt_of_lt_of_le qgl hW.size⟩
       go_upto_region 9 with fail
       refine wp_region_rel 16 (JE _) (Ext []) (kinds []) (by kernel_rfl) (by kernel_rfl) JE.less ?_ JE.start ?_
       ·repeat(first|exact Stays.nil|refine Stays.cons sFix.stays ?_)
       simp only[List.take_succ_cons,List.take_zero,List.drop_succ_cons,List.drop_zero]
       repeat
        refine relAt_det rfl rfl ?_
        apply Exists.intro
        refine⟨fun wr nr hJ=>?_,?_⟩
        ·obtain⟨q0,q0l,q2,q4,qgl⟩:=HQ.o wr hJ;clear hJ;(go_simp;try go_bits)
         first|rfl|exact⟨rfl,rfl⟩
        simp only[Act.put,List.setIfInBounds_toArray,List.set_cons_succ,List.set_cons_zero]
       refine relAt_nil (fun w2 hJ hF=>?_)
       have HB2:=hd (HB1.o.ext hJ (by simp));have HE2:=hd hJ;clear hF hJ;have q0:=HB2.o.cell;have q0f:=HB2.o.frozen;have q0l:=HB2.o.lt;have HB3:=hd (HB2.o.set_' 0 (.int .i64 (lk-1-pr)) #[.int .i64 (lk-1-pr)] rfl);have HE3:=hd (Ext.setAt (b:=kb) (i:=0) (u:=Value.int .i64 (lk-1-pr)) (.inl (by simp)) (Ext.refl [kb] w2));rw[<-HPE.o] at HB3 HE3;go_wp2_with fail
       go_meet
       refine⟨lk-1-(mn:Int)*(1+bl),?_,by rw[HPE.o];omega,hd ((HE1.o.trans (HE2.o.nil.trans HE3.o)).mono fun x hx=>.inl (by rw[List.mem_singleton.1 hx];simp)),HB3,hd ((HV1.o.keep HE2.o (by simp)).keep HE3.o (fun hm=>by rw[List.mem_singleton] at hm;omega))⟩
       rw[HRN.o,HPE.o];have:=HLK.o;omega
     ·
      have e1:(h.k==1)=false:=by simpa using hk1
      have hk3:h.k=3:=by
       have:=HFD.o;cases this with
       | loop _ _ _ h1=>omega
       | when _ _ _ h1=>omega
       | store _ _ h1=>exact h1
      have HKK:=hd hk3;generalize h.k=hk at qk e1 e2;clear hk1 hk2 hk3 qg2;go_wp2_with fail
      go_meet
      refine⟨lk-1,?_,by omega,hd (HE1.o.mono fun x hx=>.inl (by rw[List.mem_singleton.1 hx];simp)),HB1,HV1⟩
      rw[runNL_take HSK.o,runN_store HKK.o];have:=HLK.o;simp;omega
   case rest=>
    obtain⟨l2,hl2e,hl2,HE2,HB2,HV2⟩:=hcut;rename World=>w2
    have HL2:=hd hl2e;clear hl2e;have q0:=HB2.o.cell;have q0l:=HB2.o.lt;by_cases hneg:l2<0
    ·have e3:decide (l2<0)=true:=by simpa using hneg
     have HNO:Hd (okR env l left=false):=hd (okR_not HSK.o (by have:=HL2.o;omega));clear hneg;go_wp2_with fail
     go_ret
     exact⟨l2,by rw[HNO.o];rfl,HE.o.trans HE2.o,HB2.o,HV2.o,fun h=>by rw[HNO.o] at h;cases h⟩
    ·have e3:decide (l2<0)=false:=by simpa using hneg
     have HNN:Hd (0<=l2):=hd (by omega);clear hneg;go_wp2_with fail
     go_roundw
     case rel=>exact⟨k+1,by go_num,by omega,hd (HE.o.trans HE2.o),hd (by rw[<-HL2.o];exact HB2.o),HV2,hd (.inr (by have:=HNN.o;have:=HL2.o;omega))⟩
     case measure=>simp[intOf];omega
  ·
   have hkm:k=m:=by omega
   subst hkm;have htk:l.take k=l:=List.take_of_length_le (by rw[HN.o];exact Nat.le_refl _)
   have hok:okR env l left=true:=okR_all (by
    have h1:=HK.o;rw[htk] at h1;exact h1.imp (fun h=>by rw[HN.o];exact h) id)
   have HB9:=HBk.o;rw[htk] at HB9;have HB8:=hd HB9;have HOK:=hd hok;clear HB9 hok;go_wp2_with fail
   go_ret
   exact⟨_,by rw[HOK.o];rfl,HE.o,HB8.o,HVk.o,fun _=>rfl⟩
theorem run_any (l:List St):RunC l:=run_list l fun s _=>st_ind (P:=fun s=>RunC s.body) (fun h ks ih=>run_list ks ih) s
end Go.Proofs.YtfppibmloloakaaGreatDoor
