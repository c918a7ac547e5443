import Derived.Test.YtfppibmloloakaaGreatDoorK09
namespace Go.Proofs.YtfppibmloloakaaGreatDoor
open Go.RowKit Go.Proofs.Tryz
set_option linter.all false
set_option maxHeartbeats 64000000
structure Af6 (w:World)(n:Nat)(L:List Nat)(AL:List Value)(names:List ByteArray)(path:List Int)(gl:List Nat)(no g:Nat)(h:SH)(b:List St)(pb po:Nat)(CA:Option Addr)(cc:Nat)(A:Option Addr)(cap:Nat)(gs:List Nat)(PA:Option Addr)(pc:Nat)(vv:Value):Prop where
 blk:Blk w g 129 (Ck pb po names.length (if h.k=1 then(Ar h:Int) else 0) (.slice CA (if h.k=2 then h.conds.length else 0) cc) (.slice A b.length cap) (if h.k=3 then(no:Int) else 0) (.slice PA path.length pc) (if h.k=3 then h.at_.base else 0) (if h.k=3 then Bq names h.at_.ts else Ip) vv no (no+Be (.mk h b):Nat))
 gn:g<n
 src:∀(j:Nat) (v:Value),(stH h b.length)[j]? = some v->w.cell? ⟨pb,po+j,none⟩=some v
 pn:pb<n
 cond:h.k=2->Ak w CA 9 (lnL names) h.conds/\∀b o,CA=some ⟨b,o,none⟩->b<n
 pth:Ak w PA 1 inC path/\∀b o,PA=some ⟨b,o,none⟩->b<n
 val:h.k=3->∃(vb:Nat) (LA:Option Addr) (lc:Nat),vv=ptV vb/\CEx w n [] names vb h.val/\L[no]? = some g/\AL[no]? = some (.slice LA gl.length lc)/\Ak w LA 1 ptC gl
 row:Ak w A 1 ptC gs/\∀b o,A=some ⟨b,o,none⟩->b<n
 len:gs.length=b.length
 kid:∀(i g':Nat) (s':St),gs[i]? = some g'->b[i]? = some s'->CSt w n [] L AL (Aw names h) (path ++ [(i:Int)]) (Co gl h g) (no+Ab (b.take i)) g' s'
theorem CSt.open_ {w:World}{n:Nat}{L:List Nat}{AL:List Value}{names:List ByteArray}{path:List Int}{gl:List Nat}{no g:Nat}{h:SH}{b:List St}(k:CSt w n [] L AL names path gl no g (.mk h b)):∃pb po CA cc A cap gs PA pc vv,Af6 w n L AL names path gl no g h b pb po CA cc A cap gs PA pc vv:=by
 cases k with
 | mk _ _ _ _ _ _ _ pb po CA cc A cap gs PA pc vv hg hg2 hp hp2 hc hpv hv hk hl hs=>
  exact⟨pb,po,CA,cc,A,cap,gs,PA,pc,vv,hg,hg2.1,hp,hp2.1,fun h2=>⟨(hc h2).1,fun b o hA=>((hc h2).2 b o hA).1⟩,⟨hpv.1,fun b o hA=>(hpv.2 b o hA).1⟩,fun h3=>by
   obtain⟨vb,LA,lc,e1,e2,e3,e4,e5⟩:=hv h3;exact⟨vb,LA,lc,e1,e2,e3,e4,e5.1⟩,⟨hk.1,fun b o hA=>(hk.2 b o hA).1⟩,hl,hs⟩
structure Dh (w:World)(n:Nat)(nb:Nat)(L:List Nat)(AL:List Value)(names:List ByteArray)(xs:List Int)(gl:List Nat)(no:Nat)(A:Option Addr)(gs:List Nat)(l:List St):Prop where
 row:Ak w A 1 ptC gs
 rown:∀b o,A=some ⟨b,o,none⟩->b<n
 len:gs.length=l.length
 at_:∀(i g:Nat) (s:St),gs[i]? = some g->l[i]? = some s->CSt w n [] L AL names (xs ++ [(i:Int)]) gl (no+Ab (l.take i)) g s
 fd:∀s∈l,Fd nb names s
theorem Dh.step {w w':World}{n nb:Nat}{L:List Nat}{AL:List Value}{names:List ByteArray}{xs:List Int}{gl:List Nat}{no:Nat}{A:Option Addr}{gs:List Nat}{l:List St}(h:Dh w n nb L AL names xs gl no A gs l){S:List Nat}(hE:Ext S w w')(hS:∀x∈S,n<=x):Dh w' n nb L AL names xs gl no A gs l:=
 ⟨h.row.ext hE fun x hx b o hA hxb=>by have:=hS x hx;have:=h.rown b o hA;omega,h.rown,h.len,fun i g s hg hs=>(h.at_ i g s hg hs).step hE (fun x hx=>.inr (hS x hx)) (jD n) (by simp) (fun i g h=>h) fun i g h=>h,h.fd⟩
theorem Dh.body {w:World}{n nb:Nat}{L:List Nat}{AL:List Value}{names:List ByteArray}{path:List Int}{gl:List Nat}{no g:Nat}{h:SH}{b:List St}{pb po:Nat}{CA:Option Addr}{cc:Nat}{A:Option Addr}{cap:Nat}{gs:List Nat}{PA:Option Addr}{pc:Nat}{vv:Value}(k:Af6 w n L AL names path gl no g h b pb po CA cc A cap gs PA pc vv)(hF:Fd nb names (.mk h b)):Dh w n nb L AL (Aw names h) path (Co gl h g) no A gs b:=by
 refine⟨k.row.1,k.row.2,k.len,k.kid,?_⟩
 cases hF with
 | loop _ _ _ h1 h2 h3 h4 h5 h6 h7 h8 h9=>
                       have e:Aw names h=names ++ [h.var]:=ijp h1;rw[e];exact h9
 | when _ _ _ h1 h2 h3 h4 h5=>
                 have e:Aw names h=names:=ijn (by omega);rw[e];exact h5
 | store _ _ h1=>exact fun s hs=>by simp at hs
theorem Es {h:SH}{k:Nat}(h1 : -100000<=h.lo/\h.lo<=100000)(h2 : -100000<=h.hi/\h.hi<=100000)(h3:1<=h.step/\h.step<=100000)(hk:k<Ar h):Bdd (Dj h k):=by
 have h4:=(Od h3.1).2 hk;have h5:0<=(k:Int)*h.step:=Int.mul_nonneg (by omega) (by omega);unfold Dj at *;exact⟨by omega,by omega⟩
theorem Kd {names:List ByteArray}{vs:List Int}(hl:vs.length=names.length)(h:SH)(k:Nat):Bh (names.zip vs) h k=(names ++ [h.var]).zip (vs ++ [Dj h k]):=by
 unfold Bh;rw[List.zip_append hl.symm];rfl
theorem Fl {h:SH}(h1 : -100000<=h.lo/\h.lo<=100000)(h2 : -100000<=h.hi/\h.hi<=100000)(h3:1<=h.step/\h.step<=100000):Ar h<=200000:=by
 rcases Nat.lt_or_ge 200000 (Ar h) with h4|h4
 ·exfalso
  have h5:=(Od (h:=h) (k:=200000) h3.1).2 h4;have h6:(200000:Int)*1<=200000*h.step:=Int.mul_le_mul_of_nonneg_left h3.1 (by decide);unfold Dj at h5;omega
 ·exact h4
theorem Bn.pop {w:World}{eb:Nat}{vs:List Int}{x:Int}(h:Bn w eb (vs ++ [x])):Bn w eb vs:=by
 obtain⟨h1,h2,C,h3,h4,h5⟩:=h;refine⟨by simp at h1;omega,fun v hv=>h2 v (jN.2 (.inl hv)),C,h3,h4,fun i y hy=>h5 i y ?_⟩
 rw[List.getElem?_append_left (ils hy).1];exact hy
def okR (env:Env)(l:List St)(left:Int):Bool:=l.isEmpty||decide ((Av env l:Int)<=left)
theorem Qp {env:Env}{l:List St}{left:Int}{k:Nat}{s:St}(hs:l[k]? = some s)(h:left<Av env (l.take (k+1))):okR env l left=false:=by
 have h1:Av env (l.take (k+1))<=Av env l:=Oc;unfold okR
 have h2:l.isEmpty=false:=by cases l with
  | nil=>simp at hs
  | cons=>rfl
 have h3:decide ((Av env l:Int)<=left)=false:=by simp;omega
 rw[h2,h3];rfl
theorem Af7 {env:Env}{l:List St}{left:Int}(h:okR env l left=false):left<Av env l:=by
 unfold okR at h;simp at h;omega
theorem Aim {env:Env}{l:List St}{left:Int}(h:l.length=0\/(Av env l:Int)<=left):okR env l left=true:=by
 unfold okR;rcases h with h|h
 ·rw[List.length_eq_zero_iff.1 h];rfl
 ·simp[h]
theorem Ain {env:Env}{l:List St}{left:Int}(h:okR env l left=true)(h0:0<=left):(Av env l:Int)<=left:=by
 unfold okR at h;simp at h;rcases h with h|h
 ·subst h;simpa[Av] using h0
 ·exact h
def RunP (kb eb:Nat)(vs:List Int)(env:Env)(l:List St)(left:Int)(w:World)(e:Ending)(w':World):Prop:=
 ∃left':Int,e=.returned (.bool (okR env l left))/\Ext [kb,eb] w w'/\Blk w' kb 182 #[left']/\Bn w' eb vs/\(okR env l left=true->left'=left-Av env l)
def Aio (l:List St):Prop:=∀(n nb kb eb:Nat) (A:Option Addr) (cap:Nat) (gs:List Nat) (names:List ByteArray) (vs:List Int) (no:Nat) (xs:List Int) (gl L:List Nat) (AL:List Value) (left:Int) (w:World),
 Dh w n nb L AL names xs gl no A gs l->Bn w eb vs->vs.length=names.length->n<=eb->n<=kb->kb≠eb->Blk w kb 182 #[left]->Bk l<=1000000->-1000000000+(Bk l:Int)<=left->left<=2500000->
  Calls prog 99 #[.pointer (some kb),.slice A l.length cap,.slice (some eb) vs.length 8] w (RunP kb eb vs (names.zip vs) l left w)
attribute [local irreducible] Bj
set_option maxRecDepth 100000 in
theorem Yg (l:List St)(ih:∀s∈l,Aio s.body):Aio l:=by
 intro n nb kb eb A cap gs names vs no xs gl L AL left w hA hV hl hne hnk hke hB hcn h1 h2;have HI:=hd ih;have HA:=hd hA;have HV:=hd hV;have HL:=hd hl;have HB:=hd hB;have ch:gs.length<=1000000:=hA.row.1;have ci:=hB.lt;have cj:=hV.1;clear ih hA hV hl hB;generalize hn:l.length=m at *;have HN:=hd hn;generalize bJ:vs.length=d at *;have HD:=hd bJ;have ck:m<=1000000:=by have:=HA.o.len;omega
 clear hn bJ;generalize aK:names.zip vs=env at *;have am:=hd aK;clear aK;go_enter func99,ntmps99
 go_wp2_with fail
 go_loopw [12] (fun i wr=>∃k:Nat,i=.int .i64 k/\k<=m/\Hd (Ext [kb,eb] w wr)/\Hd (Blk wr kb 182 #[.int .i64 (left-Av env (l.take k))])/\Hd (Bn wr eb vs)/\Hd (k=0\/(Av env (l.take k):Int)<=left)) (fun i _=>(m-intOf i).toNat)
 case atStart=>exact⟨0,rfl,jQ _,hd (jF _ _),hd (by simpa[Av] using HB.o),HV,hd (.inl rfl)⟩
 case round=>
  obtain⟨k,rfl,hk,HE,aI,b3,HK⟩:=hrel;rename World=>wq
  by_cases cs:k<m
  ·have b6:(k:Int)<(m:Int):=by omega
   have hS:∀x∈[kb,eb],n<=x:=fun x hx=>by
    rcases jE.1 hx with rfl|hx
    ·exact hnk
    ·rw[jA.1 hx];exact hne
   have b7:=hd (HA.o.step HE.o hS);obtain⟨bA,g,rfl,hg,bu⟩:=b7.o.row.at (i:=k) (by have:=HA.o.len;have:=HN.o;omega);have b8:wq.cell? ⟨bA,k,none⟩=some (.pointer (some g)):=by have:=bu 0 _ rfl;rw[Nat.mul_one,Nat.add_zero] at this;exact this
   have aA:=jB wq _ b8;simp only at aA;obtain⟨s,hs⟩:∃s,l[k]? = some s:=⟨_,jJ (by have:=HN.o;omega)⟩;obtain⟨h,bs⟩:=s;have an:=ilm hs;obtain⟨pb,po,CA,cc,BA,bcap,bv,PA,pc,vv,hC⟩:=(b7.o.at_ k g _ hg hs).open_;have HC:=hd hC;have aB:=hd (HA.o.fd _ an);have ba:=hd (HI.o _ an);have ab:=hd hs;clear hg bu hs an hC;generalize b5:left-(Av env (l.take k):Int)=lk at *;have ai:=hd b5;have bO:lk<=2500000:=by omega
   have cl:1+Bk bs<=Bk l:=by have:=Af1 ab.o;simpa[Hm] using this
   have bP : -1000000000+(1+Bk bs:Nat)<=lk:=by
    rcases HK.o with h0|h0
    ·subst h0;simp[Av] at b5;omega
    ·omega
   clear b5;have qk:=aI.o.cell;have bQ:=aI.o.frozen;have bR:=aI.o.lt;go_upto_block 2 with fail
   have a8:=hd (jL (b:=kb) (i:=0) (u:=Value.int .i64 (lk-1)) (.inl (by simp)) (jF [kb] wq));have ae:=hd (aI.o.set_' 0 (.int .i64 (lk-1)) #[(lk-1:Int)] rfl);generalize World.setCell _ _ _=w1 at *;clear qk bQ bR b8 aA;have bb:∀x∈[kb],n<=x:=fun x hx=>by rw[jA.1 hx];exact hnk
   have aL:=HC.o.gn;have aM:=HC.o.pn;have ao:=hd (HC.o.blk.ext a8.o (fun hm=>by rw[jA] at hm;omega));have aN:Hd (∀(j:Nat) (v:Value),(stH h bs.length)[j]? = some v->w1.cell? ⟨pb,po+j,none⟩=some v):=hd fun j v hv=>a8.o.held (HC.o.src j v hv) (fun hm=>by rw[jA] at hm;simp only at hm;omega)
   have aC:=hd (b3.o.keep a8.o (fun hm=>by rw[jA] at hm;omega));have cm:=a8.o.size;go_cut [] (fun wx=>∃l2:Int,l2=left-Av env (l.take (k+1))/\-1000000000000<=l2/\Hd (Ext [kb,eb] wq wx)/\Hd (Blk wx kb 182 #[l2])/\Hd (Bn wx eb vs))
   case first=>
    have bS:w1.cell? ⟨g,0,none⟩=some (.pointer (some ⟨pb,po,none⟩)):=ao.o.cell 0;have aD:=ao.o.lt;have qk:w1.cell? ⟨pb,po,none⟩=some (.int .i64 h.k):=aN.o 0 _ rfl;have bc:=jB w1 _ qk;simp only at bc;by_cases ah:h.k=2
    ·
     have e2:(h.k==2)=true:=by simpa using ah
     have bT:Hd (Aw names h=names):=hd (ijn (by omega))
     have aS:=hd (Ms g CA h.conds.length cc h names eb vs w1 (by have:=ao.o.cell 3;rw[this];simp[Ck,ah]) rfl (by
       have:=(HC.o.cond ah);exact this.1.ext a8.o fun x hx b o hA hxb=>by have:=bb x hx;have:=this;have h9:=(HC.o.cond ah).2 b o hA;omega) (by
       have:=aB.o;cases this with
       | loop _ _ _ h1=>omega
       | when _ _ _ _ _ h1 h2=>exact h1
       | store _ _ h1=>omega) aC.o (by rw[HD.o];exact HL.o))
     rw[HD.o,am.o] at aS;have af:=hd ah;generalize h.k=hk at qk e2;clear ah;go_wp2_with fail
     refine aS.o.mono ?_
     rintro e w2 ⟨rfl,hE⟩;have a1:=hd hE;clear hE aS;have aT:w2.cell? ⟨g,4,none⟩=some (.slice BA bs.length bcap):=(ao.o.ext a1.o (by simp)).cell 4;have bU:=(ao.o.ext a1.o (by simp)).lt;have bV:=hd (HE.o.trans (a8.o.mono (T:=[kb,eb]) fun x hx=>.inl (by rw[jA.1 hx];simp)));cases hh:Ec env h
     ·have aO:=hd hh;clear hh;go_wp2_with fail
      go_meet
      refine⟨lk-1,?_,by omega,hd ((a8.o.mono fun x hx=>.inl (by rw[jA.1 hx];simp)).trans a1.o.nil),hd (ae.o.ext a1.o (by simp)),hd (aC.o.keep a1.o (by simp))⟩
      rw[Dp ab.o,Gx af.o,aO.o];have:=ai.o;simp;omega
     ·have aO:=hd hh;clear hh
      have HQ:=hd (ba.o n nb kb eb BA bcap bv names vs (no+Ab (l.take k)) (xs ++ [(k:Int)]) (Co gl h g) L AL (lk-1) w2 (by
        have:=((Dh.body HC.o aB.o).step a8.o bb).step a1.o (by simp);rw[bT.o] at this;exact this) (aC.o.keep a1.o (by simp)) (by rw[HD.o];exact HL.o) hne hnk hke (ae.o.ext a1.o (by simp)) (by simp only[St.body];omega) (by simp only[St.body];omega) (by omega))
      simp only[St.body] at HQ;rw[HD.o,am.o] at HQ;go_wp2_with fail
      refine HQ.o.mono ?_
      rintro e w3 ⟨l3,rfl,bB,bC,bD,bE⟩;have ac:=hd bB;have ad:=hd bC;have aE:=hd bD;have bd:=hd bE;clear bB bC bD bE HQ;cases aa:okR env bs (lk-1)
      ·have ap:=hd aa;clear aa;go_wp2_with fail
       go_ret
       have aj:okR env l left=false:=Qp ab.o (by
        rw[Dp ab.o,Gx af.o,aO.o];have:=Af7 ap.o;have:=ai.o;simp;omega)
       exact⟨l3,by rw[aj];rfl,(bV.o.trans a1.o.nil).trans ac.o,ad.o,aE.o,fun h=>by rw[aj] at h;cases h⟩
      ·have ap:=hd aa;clear aa;go_wp2_with fail
       go_meet
       refine⟨l3,?_,?_,hd (((a8.o.mono fun x hx=>.inl (by rw[jA.1 hx];simp)).trans a1.o.nil).trans ac.o),ad,aE⟩
       ·rw[bd.o ap.o,Dp ab.o,Gx af.o,aO.o];have:=ai.o;simp;omega
       ·rw[bd.o ap.o];have h7:=ap.o;unfold okR at h7;simp at h7;rcases h7 with h7|h7
        ·subst h7;simp[Av];omega
        ·omega
    ·have e2:(h.k==2)=false:=by simpa using ah
     have aF:w1.cell? ⟨g,2,none⟩=some (.int .i64 (if h.k=1 then(Ar h:Int) else 0)):=ao.o.cell 2;have aT:w1.cell? ⟨g,4,none⟩=some (.slice BA bs.length bcap):=ao.o.cell 4;have qv:w1.cell? ⟨pb,po+5,none⟩=some (.bool h.vec):=aN.o 5 _ rfl;by_cases az:h.k=1
     ·have e1:(h.k==1)=true:=by simpa using az
      rw[ijp az] at aF;have af:=hd az
      have ak:Hd ((-100000<=h.lo/\h.lo<=100000)/\(-100000<=h.hi/\h.hi<=100000)/\(1<=h.step/\h.step<=100000)/\names.length<8):=hd (by
       have:=aB.o;cases this with
       | loop _ _ _ _ _ _ h0 h1 h2 h3=>exact⟨h1,h2,h3,h0⟩
       | when _ _ _ h1=>omega
       | store _ _ h1=>omega)
      have cn:Ar h<=200000:=Fl ak.o.1 ak.o.2.1 ak.o.2.2.1;generalize h.k=hk at qk e1 e2;clear az ah;generalize bK:Ar h=mn at *;have aU:=hd bK;clear bK;cases hvec:h.vec
      ·
       rw[hvec] at qv;have aq:=hd hvec;clear hvec
       have aG:Hd ((Av env (l.take (k+1)):Int)=Av env (l.take k)+(1+(mn+Gp mn fun k=>Av (Bh env h k) bs))):=hd (by
        rw[Dp ab.o,Lm af.o aq.o,aU.o];simp)
       have HQ:Hd (∀W,Ext [] w1 W->W.cell? ⟨kb,0,none⟩=some (.int .i64 (lk-1))/\kb<W.heap.size/\W.cell? ⟨g,2,none⟩=some (.int .i64 mn)/\g<W.heap.size):=hd fun W hW=>⟨(ae.o.ext hW (by simp)).cell 0,(ae.o.ext hW (by simp)).lt,hW.held aF (by simp),nl aD hW.size⟩
       go_upto_region 11 with fail
       refine rgE 9 [] ?_
       simp only[TK]
       repeat(refine dE (fun wr nr hJ=>by(obtain⟨q0,au,q2,aD⟩:=HQ.o wr hJ);clear hJ;exact CL) ?_;simp only[PT])
       refine Aj (fun w2 hJ hF=>?_)
       have a6:=hd (ae.o.ext hJ (by simp));have a1:=hd hJ;clear hF hJ;have q0:=a6.o.cell;have be:=a6.o.frozen;have au:=a6.o.lt;have ad:=hd (a6.o.set_' 0 (.int .i64 (lk-1-mn)) #[(lk-1-mn:Int)] rfl);have ac:=hd (jL (b:=kb) (i:=0) (u:=Value.int .i64 (lk-1-mn)) (.inl (by simp)) (jF [kb] w2));go_upto_region 12 with fail
       generalize World.setCell _ _ _=w3 at *;clear q0 be au;have aP:Hd (Ext [kb] wq w3):=hd (a8.o.trans (a1.o.nil.trans ac.o));have aE:=hd (b3.o.keep aP.o (fun hm=>by rw[jA] at hm;omega));have bW:w3.cell? ⟨g,2,none⟩=some (.int .i64 mn):=(a1.o.nil.trans ac.o:Ext [kb] w1 w3).held aF (fun hm=>by rw[jA] at hm;simp only at hm;omega);have aV:g<w3.heap.size:=by have:=a1.o.size;have:=ac.o.size;omega
       have q0:=ad.o.cell;have au:=ad.o.lt;by_cases a2:lk-1-mn<0
       ·have e3:decide (lk-1-(mn:Int)<0)=true:=by simpa using a2
        have aj:okR env l left=false:=Qp ab.o (by
         rw[aG.o];have:=ai.o;omega)
        have al:=hd aj;clear a2 aj;go_wp2_with fail
        go_ret
        exact⟨lk-1-mn,by rw[al.o];rfl,HE.o.trans (aP.o.mono fun x hx=>.inl (by rw[jA.1 hx];simp)),ad.o,aE.o,fun h=>by rw[al.o] at h;cases h⟩
       ·have e3:decide (lk-1-(mn:Int)<0)=false:=by simpa using a2
        have aW:Hd (0<=lk-1-mn):=hd (by omega);clear a2;go_wp2_with fail
        clear q0 au bW aV;go_loopw [110] (fun i wx=>∃j:Nat,i=.int .i64 j/\j<=mn/\Hd (Ext [kb,eb] w3 wx)/\Hd (Blk wx kb 182 #[.int .i64 (lk-1-mn-Gp j fun k=>Av (Bh env h k) bs)])/\Hd (Bn wx eb vs)/\Hd (0<=lk-1-mn-Gp j fun k=>Av (Bh env h k) bs)) (fun i _=>(mn-intOf i).toNat)
        case atStart=>exact⟨0,rfl,jQ _,hd (jF _ _),hd (by simpa[Ib] using ad.o),aE,hd (by simpa[Ib] using aW.o)⟩
        case round=>
         obtain⟨j,rfl,hj,aQ,bx,b4,aR⟩:=hrel;rename World=>wj
         by_cases cg:j<mn
         ·have bf:(j:Int)<(mn:Int):=by omega
          have aw:Hd (Ext [kb,eb] w1 wj):=hd (((a1.o.nil.trans ac.o:Ext [kb] w1 w3).mono (fun x hx=>.inl (by rw[jA.1 hx];simp))).trans aQ.o);have co:=aw.o.size;have ag:∀b,b<n->b∉[kb,eb]:=fun b hb hm=>by have:=hS b hm;omega
          have q0:wj.cell? ⟨g,0,none⟩=some (.pointer (some ⟨pb,po,none⟩)):=aw.o.held bS (ag g aL);have q4:wj.cell? ⟨g,4,none⟩=some (.slice BA bs.length bcap):=aw.o.held aT (ag g aL);have ql:wj.cell? ⟨pb,po+2,none⟩=some (.int .i64 h.lo):=aw.o.held (aN.o 2 _ rfl) (ag pb aM);have qs:wj.cell? ⟨pb,po+4,none⟩=some (.int .i64 h.step):=aw.o.held (aN.o 4 _ rfl) (ag pb aM)
          have bX:Hd (∀W,Ext [eb] wj W->W.cell? ⟨g,0,none⟩=some (.pointer (some ⟨pb,po,none⟩))/\W.cell? ⟨g,4,none⟩=some (.slice BA bs.length bcap)/\g<W.heap.size/\W.cell? ⟨pb,po+2,none⟩=some (.int .i64 h.lo)/\W.cell? ⟨pb,po+4,none⟩=some (.int .i64 h.step)/\pb<W.heap.size):=hd fun W hW=>by
           have a7:∀b,b<n->b∉[eb]:=fun b hb hm=>by rw[jA] at hm;omega
           have:=hW.size;exact⟨hW.held q0 (a7 g aL),hW.held q4 (a7 g aL),by omega,hW.held ql (a7 pb aM),hW.held qs (a7 pb aM),by omega⟩
          have ax:=hd (Es ak.o.1 ak.o.2.1 ak.o.2.2.1 (by rw[aU.o];exact cg):Bdd (Dj h j));have bY:d<8:=by have:=ak.o.2.2.2;have:=HL.o;omega
          have bh:=hd (Da j fun k=>Av (Bh env h k) bs);have bZ:=hd (Mn (fun k=>Av (Bh env h k) bs) (show j+1<=mn by omega));have aX:=hd (Kd (by rw[HD.o];exact HL.o) h j:Bh (names.zip vs) h j=_);rw[am.o] at aX;have c0:=ak.o.1;unfold Dj at ax aX;generalize ce:h.lo=lo at *;generalize cf:h.step=st at *;clear q0 q4 ql qs;have m1 : -9223372036854775808<=(j:Int)*st:=by have:=ax.o.1;omega
          have m2:(j:Int)*st<=9223372036854775807:=by have:=ax.o.2;omega
          have m3 : -9223372036854775808<=lo+(j:Int)*st:=by have:=ax.o.1;omega
          have m4:lo+(j:Int)*st<=9223372036854775807:=by have:=ax.o.2;omega
          clear ce cf;go_upto_region 17 with fail
          refine rgW 25 [eb] (Nr eb d (lo+(j:Int)*st)) [(23,Aq wj.heap.size [.int .i64 (lo+(j:Int)*st)]),(24,Is eb (d+1) (vs ++ [lo+(j:Int)*st]))] ?_ ?_
          ·refine Am.cons (Aq.stays fun b j u y hb hu hf=>?_) (Am.cons (Is.stays fun y hy=>?_) Am.nil)
           ·have h9:b=eb:=hf.1;have:=b4.o.lt;omega
           ·rw[<-HD.o,jM (jD _),Nat.sub_self] at hy;cases hy
            rfl
          simp only[TK]
          repeat(refine dE (fun wr nr hJ=>by(obtain⟨q0,q4,aD,ql,qs,bc⟩:=bX.o wr hJ.1);clear hJ;exact CL) ?_;simp only[PT])
          refine Eg (Aq wj.heap.size [.int .i64 (lo+(j:Int)*st)]) rfl rfl (fun wr nr hJ hf=>?_) ?_
          ·refine⟨wr.heap.size,.cells #[.int .i64 (lo+(j:Int)*st)] 3,?_,Ext.size hJ.1,Cs _ _ _ ((jK wr 3 #[.int .i64 (lo+(j:Int)*st)]).cell 0)⟩
           (go_simp;try go_bits)
           first|rfl|exact⟨rfl,rfl⟩
          intro (b23:Nat);simp only[PT];refine Iq eb b23 1 d vs (lo+(j:Int)*st) _ _ rfl rfl rfl rfl rfl HD.o bY ax.o (fun wr nr hJ hf=>?_) ?_
          ·have c1:(Aq wj.heap.size [.int .i64 (lo+(j:Int)*st)]).V b23 wr:=Bd hf 23 (by kernel_rfl);exact⟨b4.o.rw hJ.2 fun y hy=>by have:=(ils hy).1;have:=HD.o;omega,c1.2 0 _ rfl⟩
          simp only[PT];refine Aj (fun w5 hJ hF=>?_)
          have bi:Hd (Bn w5 eb (vs ++ [lo+(j:Int)*st])):=hd (hF 24);have aY:=hd hJ.1;clear hF hJ;have bj:Aw names h=names ++ [h.var]:=ijp af.o;have c2:Hd (Ext [kb,eb] wq w5):=hd (((a8.o.mono fun x hx=>.inl (by rw[jA.1 hx];simp)).trans aw.o).trans (aY.o.mono fun x hx=>.inl (by rw[jA.1 hx];simp)));have aH:=hd (bx.o.ext aY.o (fun hm=>by rw[jA] at hm;omega));have aZ:=hd ((Dh.body HC.o aB.o).step c2.o hS);rw[bj] at aZ;have HQ:=hd (ba.o n nb kb eb BA bcap bv (names ++ [h.var]) (vs ++ [lo+(j:Int)*st]) (no+Ab (l.take k)) (xs ++ [(k:Int)]) (Co gl h g) L AL _ w5 aZ.o bi.o (by simp;have:=HL.o;have:=HD.o;omega) hne hnk hke aH.o (by simp only[St.body];omega) (by simp only[St.body];have:=aR.o;omega) (by have:=aR.o;omega));simp only[St.body] at HQ;rw[<-aX.o,jG,jS,HD.o] at HQ;clear aZ bj;go_wp2_with fail
          refine HQ.o.mono ?_
          rintro e w7 ⟨l7,rfl,bF,bG,bH,bI⟩;have c3:=hd bF;have bk:=hd bG;have bm:=hd bH.pop;have c4:=hd bI;clear bF bG bH bI HQ bi aH;have bn:Hd (Ext [kb,eb] wj w7):=hd ((aY.o.mono fun x hx=>.inl (by rw[jA.1 hx];simp)).trans c3.o);generalize bL:Gp j (fun k=>Av (Bh env h k) bs)=sj at *;generalize bM:Av (Bh env h j) bs=rb at *;have cp:=hd bL;have bo:=hd bM;clear bL bM;generalize bN:lk-1-(mn:Int)-(sj:Int)=lj at *;have bp:=hd bN;clear bN;cases aa:okR (Bh env h j) bs lj
          ·have aj:okR env l left=false:=Qp ab.o (by
            rw[aG.o];have h1:=Af7 aa;have h2:=bZ.o;rw[bh.o] at h2;have h3:=bp.o;have h4:=ai.o;have h5:=bo.o;omega)
           have al:=hd aj;clear aa aj;go_wp2_with fail
           go_ret
           exact⟨l7,by rw[al.o];rfl,(HE.o.trans (aP.o.mono fun x hx=>.inl (by rw[jA.1 hx];simp))).trans (aQ.o.trans bn.o),bk.o,bm.o,fun h=>by rw[al.o] at h;cases h⟩
          ·have c5:=hd (Ain aa aR.o);have bq:=hd (c4.o aa);clear aa;go_wp2_with fail
           go_roundw
           case rel=>
            have e9:lk-1-(mn:Int)-((Gp (j+1) fun k=>Av (Bh env h k) bs:Nat):Int)=l7:=by
             rw[bh.o,bq.o,<-bp.o];omega
            refine⟨j+1,by go_num,by omega,hd (aQ.o.trans bn.o),hd (by rw[e9];exact bk.o),bm,hd ?_⟩
            rw[e9,bq.o];have h1:=c5.o;have h2:=bo.o;omega
           case measure=>simp[intOf];omega
         ·have bf:j=mn:=by omega
          subst bf;go_wp2_with fail
          go_meet
          refine⟨lk-1-j-Gp j fun k=>Av (Bh env h k) bs,?_,by have:=aR.o;omega,hd ((aP.o.mono fun x hx=>.inl (by rw[jA.1 hx];simp)).trans aQ.o),bx,b4⟩
          rw[aG.o];have:=ai.o;omega
      ·
       rw[hvec] at qv;have aq:=hd hvec;clear hvec;have c6:bs.length<=1000000:=by have:=HC.o.row.1.1;have:=HC.o.len;omega
       have aG:Hd ((Av env (l.take (k+1)):Int)=Av env (l.take k)+(1+mn*(1+bs.length))):=hd (by
        rw[Dp ab.o,Rm af.o aq.o,aU.o];simp)
       generalize bs.length=bl at *;have cq:(0:Int)<=mn*(1+bl)/\(mn:Int)*(1+bl)<=200000*1000001:=⟨Int.mul_nonneg (by omega) (by omega),Int.mul_le_mul (by omega) (by omega) (by omega) (by omega)⟩;generalize ay:(mn:Int)*(1+bl)=pr at *;have c7 : -9223372036854775808<=(mn:Int)*(1+bl):=by rw[ay];omega
       have c8:(mn:Int)*(1+bl)<=9223372036854775807:=by rw[ay];omega
       have c9 : -9223372036854775808<=lk-1-(mn:Int)*(1+bl):=by rw[ay];omega
       have ca:lk-1-(mn:Int)*(1+bl)<=9223372036854775807:=by rw[ay];omega
       have b0:=hd ay;clear ay;have HQ:Hd (∀W,Ext [] w1 W->W.cell? ⟨kb,0,none⟩=some (.int .i64 (lk-1))/\kb<W.heap.size/\W.cell? ⟨g,2,none⟩=some (.int .i64 mn)/\W.cell? ⟨g,4,none⟩=some (.slice BA bl bcap)/\g<W.heap.size):=hd fun W hW=>⟨(ae.o.ext hW (by simp)).cell 0,(ae.o.ext hW (by simp)).lt,hW.held aF (by simp),hW.held aT (by simp),nl aD hW.size⟩
       go_upto_region 9 with fail
       refine rgE 16 [] ?_
       simp only[TK]
       repeat(refine dE (fun wr nr hJ=>by(obtain⟨q0,au,q2,q4,aD⟩:=HQ.o wr hJ);clear hJ;exact CL) ?_;simp only[PT])
       refine Aj (fun w2 hJ hF=>?_)
       have a6:=hd (ae.o.ext hJ (by simp));have a1:=hd hJ;clear hF hJ;have q0:=a6.o.cell;have be:=a6.o.frozen;have au:=a6.o.lt;have ad:=hd (a6.o.set_' 0 (.int .i64 (lk-1-pr)) #[(lk-1-pr:Int)] rfl);have ac:=hd (jL (b:=kb) (i:=0) (u:=Value.int .i64 (lk-1-pr)) (.inl (by simp)) (jF [kb] w2));rw[<-b0.o] at ad ac;go_wp2_with fail
       go_meet
       refine⟨lk-1-(mn:Int)*(1+bl),?_,by rw[b0.o];omega,hd ((a8.o.trans (a1.o.nil.trans ac.o)).mono fun x hx=>.inl (by rw[jA.1 hx];simp)),ad,hd ((aC.o.keep a1.o (by simp)).keep ac.o (fun hm=>by rw[jA] at hm;omega))⟩
       rw[aG.o,b0.o];have:=ai.o;omega
     ·
      have e1:(h.k==1)=false:=by simpa using az
      have br:h.k=3:=by
       have:=aB.o;cases this with
       | loop _ _ _ h1=>omega
       | when _ _ _ h1=>omega
       | store _ _ h1=>exact h1
      have af:=hd br;generalize h.k=hk at qk e1 e2;clear az ah br aF;go_wp2_with fail
      go_meet
      refine⟨lk-1,?_,by omega,hd (a8.o.mono fun x hx=>.inl (by rw[jA.1 hx];simp)),ae,aC⟩
      rw[Dp ab.o,Kl af.o];have:=ai.o;simp;omega
   case rest=>
    obtain⟨l2,aJ,cr,a1,a6,bz⟩:=hcut;rename World=>w2
    have b1:=hd aJ;clear aJ;have q0:=a6.o.cell;have au:=a6.o.lt;by_cases a2:l2<0
    ·have e3:decide (l2<0)=true:=by simpa using a2
     have al:Hd (okR env l left=false):=hd (Qp ab.o (by have:=b1.o;omega));clear a2;go_wp2_with fail
     go_ret
     exact⟨l2,by rw[al.o];rfl,HE.o.trans a1.o,a6.o,bz.o,fun h=>by rw[al.o] at h;cases h⟩
    ·have e3:decide (l2<0)=false:=by simpa using a2
     have aW:Hd (0<=l2):=hd (by omega);clear a2;go_wp2_with fail
     go_roundw
     case rel=>exact⟨k+1,by go_num,by omega,hd (HE.o.trans a1.o),hd (by rw[<-b1.o];exact a6.o),bz,hd (.inr (by have:=aW.o;have:=b1.o;omega))⟩
     case measure=>simp[intOf];omega
  ·
   have b6:k=m:=by omega
   subst b6;have bt:l.take k=l:=List.take_of_length_le (by rw[HN.o];exact jD _)
   have aa:okR env l left=true:=Aim (by
    have h1:=HK.o;rw[bt] at h1;exact h1.imp (fun h=>by rw[HN.o];exact h) id)
   have b2:=aI.o;rw[bt] at b2;have cb:=hd b2;have ap:=hd aa;clear b2 aa;go_wp2_with fail
   go_ret
   exact⟨_,by rw[ap.o];rfl,HE.o,cb.o,b3.o,fun _=>rfl⟩
theorem Aip (l:List St):Aio l:=Yg l fun s _=>Dn (P:=fun s=>Aio s.body) (fun h ks ih=>Yg ks ih) s
end Go.Proofs.YtfppibmloloakaaGreatDoor
